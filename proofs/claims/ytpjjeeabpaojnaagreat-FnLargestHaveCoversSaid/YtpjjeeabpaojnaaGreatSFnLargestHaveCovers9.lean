/- Texts of this claim put together (9): words, what the functions compute, and plain facts. No conditions. -/
import Derived.Test.YtpjjeeabpaojnaaGreatSFnLargestHaveCovers4
import Derived.Outline
import Derived.Laws.Cover3
import Derived.Lib.Hide
import Derived.Test.YtpjjeeabpaojnaaGreatSFnLargestHaveCovers8
import Derived.Test.YtpjjeeabpaojnaaGreatSFnLargestHaveCovers7
import Derived.Deep.RegionWith
import Derived.Deep.RegionLaw
import Derived.Test.YtpjjeeabpaojnaaGreatSFnLargestHaveCovers5
import Derived.OpenShut
import Derived.Test.YtpjjeeabpaojnaaGreatSFnLargestHaveCovers0
section
namespace Go.Proofs.YtpjjeeabpaojnaaGreat.Q
open Go.RowKit Go.Proofs.YtpjjeeabpaojnaaGreatW.PrintWords Go.Proofs.YtpjjeeabpaojnaaGreatW.PrintLast Go.Proofs.YtpjjeeabpaojnaaGreatW.PrintMore
open Go.Proofs.YtpjjeeabpaojnaaGreatL
set_option linter.unusedVariables false
theorem run_eql_slice_nil_ {w:World} (a:Option Addr) (l c:Nat):(binOp .eql 24 (.slice a l c) (.slice none 0 0)).run Tryz.prog w=.ok (.bool a.isNone) w:=by
 simp only [binOp]
 simp [run_equal_slice_nil _ _ _ _ _ _ Tryz.underlying24]
attribute [local go_sem] run_eql_slice_nil_
def slices_Clone_int_int.f (l0:List Int):Option (List Int):=if l0.length < 17592186044416 then some l0 else none
set_option maxHeartbeats 8000000 in
set_option maxRecDepth 100000 in
theorem slices_Clone_int_int.calls (A0:Option Addr) (c0:Nat) (l0:List Int) (r:List Int) (w:World) (hr0:Kd.C (Kd.int .i64) w A0 l0.length l0) (hc0:l0.length≤c0) (h:slices_Clone_int_int.f l0=some r) :
  Calls Tryz.prog 28 #[.slice A0 l0.length c0] w fun e w'=>∃ v0_:Value,e=.returned (v0_)∧Kd.R (Kd.int .i64) 3 w' w.heap.size (fun _=>True) v0_ r∧Below w.heap.size w w':=by
 rw [slices_Clone_int_int.f] at h
 by_cases c2:l0.length < 17592186044416
 rotate_left
 ·
  rw [if_neg c2] at h;cases h
 rw [if_pos c2] at h
 obtain rfl:=Option.some.inj h
 clear h
 cases A0 with
|none =>
  have hl:l0=[]:=by
   cases l0 with
  |nil=>rfl
  |cons a t =>
    obtain ⟨ad,e,_⟩:=Kd.at_int hr0 0 (by omega) (by simp)
    cases e
  subst hl
  have hu22:=Tryz.underlying24
  clear hr0 c2
  go_enter Tryz.func28,Tryz.ntmps28
  go_wp2
  go_ret
  exact ⟨_,rfl,Kd.R_nil _ _ _ _ _,by repeat (first|exact Below.refl _ _|apply below_alloc|apply pw_below_drewN|apply below_drew1)⟩
|some ad =>
  have HR0:=Aside0.mk hr0
  have HC0:=Aside0.mk hc0
  have HB:=Aside0.mk (Below.refl w.heap.size w)
  have LMc2:=Aside0.mk c2
  obtain ⟨y101,hy101⟩:∃ y_:List Int,y_=(([]:List Int)):=⟨_,rfl⟩
  have Ny101:=Aside0.mk hy101
  obtain ⟨y104,hy104⟩:∃ y_:List Int,y_=(y101 ++ l0):=⟨_,rfl⟩
  have Ny104:=Aside0.mk hy104
  have LL:=Aside0.mk (show y101.length=0 by rw [hy101];rfl)
  have E104:=Aside0.mk (show y104=l0 by rw [hy104,hy101];rfl)
  have hu22:=Tryz.underlying24
  clear hy101 hy104 hr0 hc0 c2
  go_enter Tryz.func28,Tryz.ntmps28
  go_wp2_with (first|((with_reducible refine gate_dst (N:=5) rfl ?_);refine Kd.R_lit (Kd.int .i64) _ 3 ?hg (N:=5) ?hd (xs:=([]:List Int)) (inner:=[]) (ok:=fun _=>True) (okp:=fun _=>True) ?hr ?hp (fun _ hk=>hk) trivial (Below.refl _ _) (Nat.le_refl _) (by simp) ?_;(case hd=>rfl);(case hg=>rfl);(case hr=>first|(go_simp;done)|(go_simp;rfl));(case hp=>exact (Reps.none _ _));intro v102 w3 ho4 hb hg_ hnew_;clear hg_ hnew_;(first|rw [← Ny101.out] at ho4|(simp only [Int.reduceToNat] at ho4;rw [← Ny101.out] at ho4));have n0_:=Aside0.mk (Kd.R_lower ho4 (below_size (by repeat (first|(with_reducible first|exact HB.out|apply below_alloc|apply pw_below_drewN|apply below_drew1)|exact HB.out))));have n1_:=Aside0.mk (below_step (by repeat (first|(with_reducible first|exact HB.out|apply below_alloc|apply pw_below_drewN|apply below_drew1)|exact HB.out)) hb);clear HB;have HO103:=n0_;have HB:=n1_;clear n0_ n1_;clear hb ho4)|((with_reducible refine gate_builtin (b:=.append) (xs:=#[.tmp 5,.tmp 6]) rfl ?_);at_builtin;refine Kd.R_append_rows (Kd.int .i64) (w0:=w) w.heap.size rfl (.tmp 5) (.tmp 6) 24 3 (.int .i64 0) 8 rfl Tryz.underlying24 info3 rfl (by decide) (by omega) v102 y101 l0 _ _ _ (fun _=>True) (fun _=>False) rfl rfl ?aO ?aR (fun _ _ h=>h) (fun _ h=>h.elim) ?aF ?aB ?aS ?aL ?_;(case aR=>repeat (first|exact (Kd.C_below HR0.out HB.out)|(with_reducible refine Kd.C_alloc ?_ _)|(with_reducible refine Kd.C_drewN ?_ _)|(with_reducible refine Kd.C_drew ?_)));(case aB=>exact (by repeat (first|(with_reducible first|exact HB.out|apply below_alloc|apply pw_below_drewN|apply below_drew1)|exact HB.out)));(case aF=>exact (fun _ _=>trivial));(case aO=>exact (by (with_reducible repeat (first|apply Kd.R_alloc|apply Kd.R_drewN|apply Kd.R_drew));exact HO103.out));(case aS=>exact (below_size (by repeat (first|(with_reducible first|exact HB.out|apply below_alloc|apply pw_below_drewN|apply below_drew1)|exact HB.out))));(case aL=>have:=LMc2.out;have:=LL.out;omega);intro v105 w5 ho hb hg hat;rw [← Ny104.out] at ho;have n0_:=Aside0.mk (hb);have n1_:=Aside0.mk (ho);clear HB;clear HO103;have HB:=n0_;have HO106:=n1_;clear n0_ n1_;clear ho hb hg hat))
  go_ret
  exact ⟨_,by first|rfl|(simp [errW_none,errW_some] <;> rfl)|(simp [*,errW_none,errW_some] <;> rfl),by rw [← E104.out];(with_reducible repeat (first|apply Kd.R_alloc|apply Kd.R_drewN|apply Kd.R_drew));exact HO106.out,by repeat (first|(with_reducible first|exact HB.out|apply below_alloc|apply pw_below_drewN|apply below_drew1)|exact HB.out)⟩
end Go.Proofs.YtpjjeeabpaojnaaGreat.Q
end
section
namespace Go.Proofs.YtpjjeeabpaojnaaGreat.WithK
set_option linter.unusedVariables false
set_option linter.unusedSectionVars false
open Go.RowKit Go.Proofs.YtpjjeeabpaojnaaGreatW.PrintWords Go.Proofs.YtpjjeeabpaojnaaGreatW.PrintLast Go.Proofs.YtpjjeeabpaojnaaGreatW.PrintMore
open Go.Proofs.YtpjjeeabpaojnaaGreatL Go.Proofs.YtpjjeeabpaojnaaGreat.LawK Go.Proofs.YtpjjeeabpaojnaaGreat.BoardK Go.Proofs.YtpjjeeabpaojnaaGreat.Walk Go.Proofs.YtpjjeeabpaojnaaGreat.Q
section
variable (hI kI : Int) (R cp a gk go kk : Nat) (ps : List Int) (w : World)
  (hps : ps.length = R) (hcp : R ≤ cp) (hr : Kd.C (Kd.int .i64) w (some ⟨a, 0, none⟩) R ps)
  (hgk : w.heap[gk]? = some (.cells #[.int .i64 kI] 3 (0, 0)))
  (hh : impl_rooks.f kk ps = some hI)
include hps hcp hr hgk hh
set_option maxHeartbeats 4000000 in
set_option maxRecDepth 100000 in
theorem wi1_skip (hne:hI ≠ kI):Calls Tryz.prog 75 #[.slice (some ⟨a,0,none⟩) R cp,.pointer (some ⟨gk,0,none⟩),.pointer (some ⟨go,0,none⟩)] w
  fun e w'=>e=.returned (.bool true)∧Below w.heap.size w w':=by
 have CX:=Lib.hid (fun (W:World) (hb:Below w.heap.size w W)=>by
  have:=impl_rooks.calls kk (some ⟨a,0,none⟩) cp ps hI W (by rw [hps];exact Kd.C_below hr hb) (by rw [hps];exact hcp) hh
  rw [hps] at this
  have h2:Calls Tryz.prog 36 #[.slice (some ⟨a,0,none⟩) R cp] W fun e w'=>e=.returned (.int .i64 hI)∧Below w.heap.size w w':=this.mono (by rintro e w' ⟨rfl,h3⟩;exact ⟨rfl,hb.trans (h3.below.mono hb.size)⟩)
  exact h2)
 have c1:(hI == kI)=false:=beq_eq_false_iff_ne.mpr hne
 have BK:=Aside0.mk hgk
 have hz5:w.cell? ⟨gk,0,none⟩=some (.int .i64 kI):=(blk_cell hgk 0).trans rfl
 clear hps hcp hr hgk hh hne
 go_enter Tryz.func75,Tryz.ntmps75
 go_wp2
 go_region_with (go_at_call 36;refine (CX.out _ (by repeat (first|exact Below.refl _ _|apply below_drew1|apply pw_below_drewN))).mono ?_;rintro e w2 ⟨rfl,hb⟩;have hb2:=Aside0.mk hb;have hz6:w2.cell? ⟨gk,0,none⟩=some (.int .i64 kI):=(blk_cell (blk_below BK.out hb) 0).trans rfl;clear hb)
 all_goals go_wp2
 all_goals go_ret
 all_goals exact ⟨rfl,hb2.out⟩
end
section
variable (hI : Int) (R cp a gk go kk bs : Nat) (ps : List Int) (out : List (List Int)) (v : Value) (OKP : Nat → Prop) (w : World)
  (hps : ps.length = R) (hR6 : R ≤ 6) (hcp : R ≤ cp) (hr : Kd.C (Kd.int .i64) w (some ⟨a, 0, none⟩) R ps)
  (hgk : w.heap[gk]? = some (.cells #[.int .i64 hI] 3 (0, 0)))
  (hgo : w.heap[go]? = some (.cells #[v] 28 (0, 0))) (hng : ∀ k, OKP k → k ≠ go) (hbs : bs ≤ w.heap.size) (hnew : ∀ k, w.heap.size ≤ k → OKP k)
  (ho : Kd.S (Kd.slice 3 (Kd.int .i64)) 24 w bs OKP v out) (hol : out.length ≤ 1000000)
  (hh : impl_rooks.f kk ps = some hI)
include hps hR6 hcp hr hgk hgo hng hbs hnew ho hol hh
set_option maxHeartbeats 8000000 in
set_option maxRecDepth 100000 in
theorem wi1_take:Calls Tryz.prog 75 #[.slice (some ⟨a,0,none⟩) R cp,.pointer (some ⟨gk,0,none⟩),.pointer (some ⟨go,0,none⟩)] w
  fun e w'=>e=.returned (.bool true)∧∃ v',w'.heap[go]?=some (.cells #[v'] 28 (0,0))∧Kd.S (Kd.slice 3 (Kd.int .i64)) 24 w' bs OKP v' (out ++ [ps])∧Still (fun k=>k=go ∨ OKP k) w w':=by
 have CX:=Lib.hid (fun (W:World) (hb:Below w.heap.size w W)=>by
  have:=impl_rooks.calls kk (some ⟨a,0,none⟩) cp ps hI W (by rw [hps];exact Kd.C_below hr hb) (by rw [hps];exact hcp) hh
  rw [hps] at this
  have h2:Calls Tryz.prog 36 #[.slice (some ⟨a,0,none⟩) R cp] W fun e w'=>e=.returned (.int .i64 hI)∧Below w.heap.size w w':=this.mono (by rintro e w' ⟨rfl,h3⟩;exact ⟨rfl,hb.trans (h3.below.mono hb.size)⟩)
  exact h2)
 have CC:=Lib.hid (fun (W:World) (hb:Below w.heap.size w W)=>by
  have:=slices_Clone_int_int.calls (some ⟨a,0,none⟩) cp ps ps W (by rw [hps];exact Kd.C_below hr hb) (by rw [hps];exact hcp) (by rw [slices_Clone_int_int.f,if_pos (by omega)])
  rw [hps] at this
  have h2:Calls Tryz.prog 28 #[.slice (some ⟨a,0,none⟩) R cp] W fun e w'=>∃ v0_:Value,e=.returned v0_∧Kd.R (Kd.int .i64) 3 w' w.heap.size (fun _=>True) v0_ ps∧Below w.heap.size w w':=this.mono (by rintro e w' ⟨v0,rfl,h3,h4⟩;exact ⟨v0,rfl,Kd.R_lower h3 hb.size,hb.trans (h4.mono hb.size)⟩)
  exact h2)
 have BK:=Aside0.mk hgk
 have BO:=Aside0.mk hgo
 have HS:=Aside0.mk ho
 have HN:=Lib.hid hnew
 have HL:=Aside0.mk hol
 have HBS:=Aside0.mk hbs
 have HGL:=Lib.hid hng
 have hz5:w.cell? ⟨gk,0,none⟩=some (.int .i64 hI):=(blk_cell hgk 0).trans rfl
 clear hps hR6 hcp hr hgk hgo hh hnew ho hol hbs hng
 go_enter Tryz.func75,Tryz.ntmps75
 go_wp2
 go_region_with (go_at_call 36;refine (CX.out _ (by repeat (first|exact Below.refl _ _|apply below_drew1|apply pw_below_drewN))).mono ?_;rintro e w2 ⟨rfl,hb⟩;have hb2:=Aside0.mk hb;have hz6:w2.cell? ⟨gk,0,none⟩=some (.int .i64 hI):=(blk_cell (blk_below BK.out hb) 0).trans rfl;have hz7:w2.cell? ⟨go,0,none⟩=some v:=(blk_cell (blk_below BO.out hb) 0).trans rfl;have hf7:w2.frozen? ⟨go,0,none⟩=false:=blk_frozen (blk_below BO.out hb) 0;clear hb)
 all_goals go_wp2
 all_goals clear hz5 hz6
 all_goals go_region_law (first|(refine Kd.S_append_step (Kd.slice 3 (Kd.int .i64)) (w0:=w) bs (by kernel_rfl) (.tmp 9) (.tmp 12) 28 24 (.slice none 0 0) 24 (by rfl) Tryz.underlying28 info24 rfl (by decide) (by decide) v out ps [.slice A3 ps.length c3] OKP (fun k=>some k=(Value.slice A3 ps.length c3).ownBlock) (by rfl) (by rfl) ?x1 ?x2 ?x3 ?x4 ?x5 ?x6 ?x7 ?_;(case x1=>exact ⟨_,rfl,(by (with_reducible repeat (first|apply Kd.R_alloc|apply Kd.R_drewN|apply Kd.R_drew));exact Kd.R_tight rfl (Kd.R_lower H3.out HBS.out))⟩);(case x2=>exact fun k hk=>(have h1:=Kd.R_base H3.out k hk.symm;⟨HN.out k h1,fun he=>(by have h2:=Kd.S_lt HS.out k he.symm;omega)⟩));(case x3=>exact fun k hk=>HN.out k (Nat.le_trans hb3.out.size hk));(case x4=>((with_reducible repeat (first|apply Kd.S_alloc|apply Kd.S_drewN|apply Kd.S_drew));exact Kd.S_mono (Kd.S_below (Kd.S_bound HS.out) hb3.out) (fun k hk=>⟨hk.1,fun he=>(by have h1:=Kd.R_base H3.out k he.symm;have h2:=hk.2.2.1;omega)⟩)));(case x5=>exact (by repeat (first|(with_reducible first|exact hb3.out.mono HBS.out|apply pw_below_drewN|apply below_drew1)|exact hb3.out.mono HBS.out)));(case x6=>exact Nat.le_trans HBS.out hb3.out.size);(case x7=>(have:=HL.out;omega));intro v4 w4 hs4 hb4 hg4 hat4;obtain ⟨A4,c4,rfl⟩:=Kd.S_slice hs4;have K4:=Aside0.mk (blk_grown (g:=go) (o:=.cells #[v] 28 (0,0)) (by (with_reducible repeat (first|refine blk_drewN ?_ _|refine blk_drew ?_|refine blk_alloc ?_ _));exact blk_below BO.out hb3.out) hg4 (fun he=>HGL.out go ((Kd.S_R HS.out).1 go he.symm) rfl));have S4:=Aside0.mk hs4;have B4:=Aside0.mk hb4;have G4:=Aside0.mk hg4;have T4:=Aside0.mk hat4;have hz9:w4.cell? ⟨go,0,none⟩=some v:=(blk_cell K4.out 0).trans rfl;have hf9:w4.frozen? ⟨go,0,none⟩=false:=blk_frozen K4.out 0;clear hs4 hb4 hg4 hat4)|(rw [if_pos (by kernel_rfl)];go_wp2_with (go_at_call 28;refine (CC.out _ (by repeat (first|exact hb2.out|exact Below.refl _ _|apply below_drew1|apply pw_below_drewN))).mono ?_;rintro e w3 ⟨v3,rfl,ho3,hb⟩;obtain ⟨A3,c3,rfl⟩:=Kd.R_slice ho3;have hb3:=Aside0.mk hb;have H3:=Aside0.mk ho3;have hz8:w3.cell? ⟨go,0,none⟩=some v:=(blk_cell (blk_below BO.out hb) 0).trans rfl;have hz8a:(w3.alloc (Obj.cells #[Value.slice A3 ps.length c3] 24)).cell? ⟨go,0,none⟩=some v:=(blk_cell (blk_alloc (blk_below BO.out hb) _) 0).trans rfl;have hf8:w3.frozen? ⟨go,0,none⟩=false:=blk_frozen (blk_below BO.out hb) 0;clear hb ho3)))
 all_goals go_wp2
 all_goals go_ret
 all_goals have S5:=Kd.S_far (p:=⟨go,0,none⟩) (Kd.S_bound S4.out) (fun k hk=>HGL.out k hk.1) (.slice A4 (out ++ [ps]).length c4)
 all_goals rw [show (out ++ [ps]).length=out.length + 1 by simp] at S5
 all_goals replace S5:=Kd.S_mono (ok':=OKP) S5 (fun _ hk=>hk.1)
 all_goals exact ⟨rfl,_,blk_put K4.out 0 _ rfl,S5,⟨Kept.setCell (Kept.of_grown G4.out (by repeat (first|(with_reducible first|exact Kept.of_below hb3.out _|apply Kept.alloc|apply Kept.drewN|apply Kept.drew)|exact Kept.of_below hb3.out _)) (fun k hk=>.inl (.inr ((Kd.S_R HS.out).1 k hk)))) (.inl (.inl rfl)) _,B4.out.os,B4.out.tape,B4.out.output⟩⟩
end
end Go.Proofs.YtpjjeeabpaojnaaGreat.WithK
end
section
namespace Go.Proofs.YtpjjeeabpaojnaaGreat.Q
set_option linter.unusedVariables false
open Go.RowKit Go.Proofs.YtpjjeeabpaojnaaGreatW.PrintWords Go.Proofs.YtpjjeeabpaojnaaGreatW.PrintLast Go.Proofs.YtpjjeeabpaojnaaGreatW.PrintMore
open Go.Proofs.YtpjjeeabpaojnaaGreatL Go.Proofs.YtpjjeeabpaojnaaGreat.LawK Go.Proofs.YtpjjeeabpaojnaaGreat.BoardK Go.Proofs.YtpjjeeabpaojnaaGreat.Walk Go.Proofs.YtpjjeeabpaojnaaGreat.WithK
def withs (k:Int) (vis:List (List Int)):List (List Int):=vis.filter (fun p=>decide (((rooksN p:Nat):Int)=k))
def impl_Board_with.f (a0_0:Int) (a0_1:Int) (l0_2:List Int) (a1:Int):Option (List (List Int)):=if isBoardB a0_0 a0_1 l0_2=true then some (withs a1 (waysFrom l0_2 a0_1.toNat l0_2.length 0 0 [])) else none
def OkI (n:Nat) (S:Nat→Prop) (go gk i:Nat):Prop:=n≤i∧¬ S i∧i ≠ go∧i ≠ gk
structure IInv (kI:Int) (gk go:Nat) (w0 W:World) (S:Nat→Prop) (vis:List (List Int)) (w:World):Prop where
 k:w.heap[gk]?=some (.cells #[.int .i64 kI] 3 (0,0))
 o:∃ v,w.heap[go]?=some (.cells #[v] 28 (0,0))∧Kd.S (Kd.slice 3 (Kd.int .i64)) 24 w w0.heap.size (OkI w0.heap.size S go gk) v (withs kI vis)
 B:Below w0.heap.size w0 w
 s:∀ i,S i→W.heap.size≤i
theorem ways6 {l:List Int} {R C:Nat} (hR:R≤6) (hC:C≤6):(waysFrom l C R 0 0 []).length≤117649:=by
 have h1:=ways_len l C R 0 0 []
 have h2:(C + 1) ^ R≤7 ^ 6:=Nat.le_trans (Nat.pow_le_pow_left (by omega) _) (Nat.pow_le_pow_right (by decide) hR)
 have h3:(7:Nat) ^ 6=117649:=by decide
 omega
set_option maxHeartbeats 8000000 in
set_option maxRecDepth 100000 in
theorem impl_Board_with.calls (a0_0 a0_1:Int) (A0_2:Option Addr) (c0_2:Nat) (l0_2:List Int) (a1:Int) (r:List (List Int)) (w:World) (hr0_2:Kd.C (Kd.int .i64) w A0_2 l0_2.length l0_2) (hc0_2:l0_2.length≤c0_2) (h:impl_Board_with.f a0_0 a0_1 l0_2 a1=some r) :
  Calls Tryz.prog 50 #[.agg #[.int .i64 a0_0,.int .i64 a0_1,.slice A0_2 l0_2.length c0_2],.int .i64 a1] w fun e w'=>∃ v0_:Value,e=.returned (v0_)∧Kd.S (Kd.slice 3 (Kd.int .i64)) 24 w' w.heap.size (fun _=>True) v0_ r∧Below w.heap.size w w':=by
 by_cases hs:isBoardB a0_0 a0_1 l0_2=true
 rotate_left
 ·
  rw [impl_Board_with.f,if_neg hs] at h;cases h
 rw [impl_Board_with.f,if_pos hs] at h
 have h:=Option.some.inj h
 obtain ⟨R,C,rfl,rfl,hlR,h1R,hR,h1C,hC,hbits⟩:=board_of hs
 rw [Int.toNat_natCast,hlR] at h
 have KEY:∀ (W:World) (gk go:Nat),Below w.heap.size w W→w.heap.size≤go→w.heap.size≤gk→go ≠ gk→go < W.heap.size→gk < W.heap.size →
   IInv a1 gk go w W (fun _=>False) [] W →
   Calls Tryz.prog 74 #[.agg #[.int .i64 (R:Int),.int .i64 (C:Int),.slice A0_2 l0_2.length c0_2],.func (.func 75) #[] #[.pointer (some ⟨gk,0,none⟩),.pointer (some ⟨go,0,none⟩)]] W fun e w'=>e=.returned (.tuple #[]) ∧
    ∃ v,w'.heap[go]?=some (.cells #[v] 28 (0,0))∧Kd.S (Kd.slice 3 (Kd.int .i64)) 24 w' w.heap.size (fun _=>True) v r∧Below w.heap.size w w':=by
  intro W gk go hBW bo bk nok lo lk hst
  refine (WalkWith.walk_calls (IInv a1 gk go w W)
   (by
    intro S vis w1 w2 hi hs1
    have kp:∀ g,g < W.heap.size→∀ {o},w1.heap[g]?=some o→w2.heap[g]?=some o:=fun g hg o ho=>(hs1.kept.2 g (blk_lt ho) (fun h=>by have:=hi.s g h;omega)).trans ho
    obtain ⟨v,ho1,ho2⟩:=hi.o
    exact ⟨kp gk lk hi.k,⟨v,kp go lo ho1,Kd.S_step ho2 (fun i hi' hlt=>hs1.kept.2 i hlt hi'.2.1)⟩,Still.below hi.B hs1 (fun i h=>Nat.le_trans hBW.size (hi.s i h)),hi.s⟩)
   R C R C rfl rfl l0_2 A0_2 c0_2 hc0_2 (.pointer (some ⟨gk,0,none⟩)) (.pointer (some ⟨go,0,none⟩))
   (fun S vis w1 hi=>Kd.C_below hr0_2 hi.B)
   hlR h1R hR hC hbits W
   (by
    intro S w1 hS hB1
    obtain ⟨v,ho1,ho2⟩:=hst.o
    exact ⟨blk_below hst.k hB1,⟨v,blk_below ho1 hB1,Kd.S_below (Kd.S_mono (Kd.S_bound ho2) (fun i hi'=>⟨hi'.1.1,fun h=>by have:=hS i h;have:=hi'.2.2.1;omega,hi'.1.2.2⟩)) hB1⟩,hBW.trans (hB1.mono hBW.size),hS⟩)
   (by
    intro S vis ps w1 a cp hS hSlt hps hmem hSa hC2 hcp hi
    obtain ⟨kk,hk⟩:=rooks_f (l:=ps) (by omega)
    obtain ⟨v,ho1,ho2⟩:=hi.o
    by_cases e:((rooksN ps:Nat):Int)=a1
    ·
     have hvl:(withs a1 vis).length≤1000000:=by
      obtain ⟨b,hb2⟩:=hmem
      have h1:=ways6 (l:=l0_2) hR hC
      have h2:(withs a1 vis).length≤vis.length:=List.length_filter_le _ _
      rw [hb2,List.length_append] at h1
      omega
     have hgk2:=hi.k
     rw [← e] at hgk2
     refine (wi1_take ((rooksN ps:Nat):Int) R cp a gk go kk w.heap.size ps (withs a1 vis) v (OkI w.heap.size S go gk) w1 hps hR hcp hC2 hgk2 ho1 (fun k h=>h.2.2.1) hi.B.size (fun k hk'=>⟨Nat.le_trans hi.B.size hk',fun h=>by have:=hSlt k h;omega,fun h=>by have:=blk_lt ho1;omega,fun h=>by have:=blk_lt hi.k;omega⟩) ho2 hvl hk).mono ?_
     rintro e' w2 ⟨rfl,v',ho3,ho4,hst2⟩
     have kp:∀ g,g ≠ go→¬ OkI w.heap.size S go gk g→∀ {o},w1.heap[g]?=some o→w2.heap[g]?=some o:=fun g hg hn o ho=>(hst2.kept.2 g (blk_lt ho) (fun h=>h.elim hg hn)).trans ho
     refine ⟨rfl,⟨kp gk (Ne.symm nok) (fun h=>h.2.2.2 rfl) hi.k,⟨v',ho3,?_⟩,Still.below hi.B hst2 ?_,hi.s⟩,fun i hSi hlt=>?_⟩
     ·
      unfold withs at ho4 ⊢
      rw [List.filter_append,List.filter_cons,if_pos (decide_eq_true e),List.filter_nil]
      exact ho4
     ·
      rintro i (rfl|h)
      ·
       exact bo
      ·
       exact h.1
     ·
      exact hst2.kept.2 i hlt (fun h=>h.elim (fun h=>by have:=hi.s i hSi;omega) (fun h=>h.2.1 hSi))
    ·
     refine (wi1_skip ((rooksN ps:Nat):Int) a1 R cp a gk go kk ps w1 hps hcp hC2 hi.k hk e).mono ?_
     rintro e' w2 ⟨rfl,hb2⟩
     refine ⟨rfl,⟨blk_below hi.k hb2,⟨v,blk_below ho1 hb2,?_⟩,hi.B.trans (hb2.mono hi.B.size),hi.s⟩,fun i hSi hlt=>hb2.block i hlt⟩
     unfold withs at ho2 ⊢
     rw [List.filter_append,List.filter_cons,if_neg (by simpa using e),List.filter_nil,List.append_nil]
     exact Kd.S_below ho2 hb2)).mono ?_
  rintro e w' ⟨rfl,S,hS,hi⟩
  obtain ⟨v,ho1,ho2⟩:=hi.o
  exact ⟨rfl,v,ho1,by rw [← h];exact Kd.S_mono ho2 (fun _ _=>trivial),hi.B⟩
 have KX:=Lib.hid KEY
 have hu24:=Tryz.underlying26
 clear KEY h hs hlR h1R hR h1C hC hbits hr0_2 hc0_2
 generalize (R:Int)=RI at *
 generalize (C:Int)=CI at *
 go_enter Tryz.func50,Tryz.ntmps50
 go_wp2_with (first
 |((with_reducible refine gate_dst (N:=2) rfl ?_);refine box_event ?hg (N:=2) ?hd (cs:=#[.int .i64 RI,.int .i64 CI,.slice A0_2 l0_2.length c0_2]) (t:=26) ?hr ?_;(case hd=>rfl);(case hg=>rfl);(case hr=>first|(go_simp;done)|(go_simp;rfl));intro gb hg w1 hbox hb;have G1:=Aside0.mk hg;have K1:=Aside0.mk hbox;have B1:=Aside0.mk hb;clear hg hbox hb)
 |((with_reducible refine gate_dst (N:=3) rfl ?_);refine box_event ?hg (N:=3) ?hd (cs:=#[.int .i64 a1]) (t:=3) ?hr ?_;(case hd=>rfl);(case hg=>rfl);(case hr=>first|(go_simp;done)|(go_simp;rfl));intro gk hg w2 hbox hb;have G2:=Aside0.mk hg;have K2:=Aside0.mk hbox;have K2b:=Aside0.mk (blk_below K1.out hb);have B2:=Aside0.mk hb;clear hg hbox hb)
 |((with_reducible refine gate_dst (N:=6) rfl ?_);refine Kd.S_lit (Kd.slice 3 (Kd.int .i64)) _ 24 ?hg (N:=6) ?hd (xs:=([]:List (List Int))) (inner:=[]) (ok:=fun _=>True) (okp:=fun _=>True) ?hr ?hp (fun _ hk=>hk) trivial (Below.refl _ _) (Nat.le_refl _) (by simp) ?_;(case hd=>rfl);(case hg=>rfl);(case hr=>first|(go_simp;done)|(go_simp;rfl));(case hp=>exact (Reps.none _ _));intro v5 w5 ho5 hb hg_ hnew_;clear hg_ hnew_;obtain ⟨A5,c5,hv5⟩:=Kd.S_slice ho5;have hv6:v5=.slice A5 0 c5:=hv5;clear hv5;subst hv6;have O5:=Aside0.mk ho5;have K5:=Aside0.mk (blk_below K2.out hb);have K5b:=Aside0.mk (blk_below K2b.out hb);have B5:=Aside0.mk hb;have L5:=Aside0.mk (And.intro (blk_lt K2.out) (blk_lt K2b.out));clear ho5 hb)
 |((with_reducible refine gate_dst (N:=5) rfl ?_);refine box_event ?hg (N:=5) ?hd (cs:=#[.slice none 0 0]) (t:=28) ?hr ?_;(case hd=>rfl);(case hg=>rfl);(case hr=>first|(go_simp;done)|(go_simp;rfl));intro go hg w6 hbox hb;have G6:=Aside0.mk hg;have K6:=Aside0.mk hbox;have B6:=Aside0.mk hb;clear hg hbox hb;have y1:w6.cell? ⟨go,0,none⟩=some (.slice none 0 0):=(blk_cell K6.out 0).trans rfl;have f1:w6.frozen? ⟨go,0,none⟩=false:=blk_frozen K6.out 0;have nbo:=Aside0.mk (show gb ≠ go from Nat.ne_of_lt (by rw [G6.out];exact blk_lt K5b.out));have nko:=Aside0.mk (show gk ≠ go from Nat.ne_of_lt (by rw [G6.out];exact blk_lt K5.out));have z5:(w6.setCell ⟨go,0,none⟩ (.slice A5 0 c5)).cell? ⟨gb,0,none⟩=some (.int .i64 RI):=(blk_cell (blk_far (blk_below K5b.out B6.out) nbo.out _) 0).trans rfl;have z6:(w6.setCell ⟨go,0,none⟩ (.slice A5 0 c5)).cell? ⟨gb,1,none⟩=some (.int .i64 CI):=(blk_cell (blk_far (blk_below K5b.out B6.out) nbo.out _) 1).trans rfl;have z7:(w6.setCell ⟨go,0,none⟩ (.slice A5 0 c5)).cell? ⟨gb,2,none⟩=some (.slice A0_2 l0_2.length c0_2):=(blk_cell (blk_far (blk_below K5b.out B6.out) nbo.out _) 2).trans rfl)
 |(go_at_call 74;(refine (KX.out _ gk go ?sB ?s1 ?s2 ?s3 ?s4 ?s5 ?s6).mono ?_);(all_goals have o1:=G1.out);(all_goals have o2:=G2.out);(all_goals have o3:=B1.out.size);(all_goals have o4:=B2.out.size);(all_goals have o5:=B5.out.size);(all_goals have o6:=G6.out);(all_goals have o7:=blk_lt K6.out);(all_goals have o8:∀ v,(w6.setCell ⟨go,0,none⟩ v).heap.size=w6.heap.size:=(fun v=>by simp [World.setCell]));(all_goals have o9:=blk_lt K5.out);(all_goals have bb:Below w.heap.size w (w6.setCell ⟨go,0,none⟩ (.slice A5 0 c5)):=Below.setCell (((B1.out.trans (B2.out.mono (by omega))).trans (B5.out.mono (by omega))).trans (B6.out.mono (by omega))) (by (try simp only []);omega) _);(case sB=>exact bb);(case s1=>omega);(case s2=>omega);(case s3=>exact Ne.symm nko.out);(case s4=>rw [o8];omega);(case s5=>rw [o8];have:=B6.out.size;omega);(case s6=>exact ⟨blk_far (blk_below K5.out B6.out) nko.out _,⟨_,blk_put K6.out 0 _ rfl,Kd.S_far (Kd.S_mono (Kd.S_below (Kd.S_lower (Kd.S_bound O5.out) (by omega)) B6.out) (fun i hi=>(by have h1:=hi.2.1;have h2:=hi.2.2.1;have h3:=L5.out;exact ⟨by omega,fun h=>h,by omega,by omega⟩))) (p:=⟨go,0,none⟩) (fun k hk=>hk.2.2.1) _⟩,bb,fun i hi=>hi.elim⟩);clear o1 o2 o3 o4 o5 o6 o7 o8 o9 bb;rintro e w7 ⟨rfl,v7,hf1,hf2,hf3⟩;have F2:=Aside0.mk hf2;have F3:=Aside0.mk hf3;have y7:w7.cell? ⟨go,0,none⟩=some v7:=(blk_cell hf1 0).trans rfl;clear hf1 hf2 hf3))
 go_ret
 exact ⟨_,rfl,F2.out,F3.out⟩
end Go.Proofs.YtpjjeeabpaojnaaGreat.Q
end
section
namespace Go.Proofs.YtpjjeeabpaojnaaGreat.WalkNum
set_option linter.unusedVariables false
open Go.RowKit Go.Proofs.YtpjjeeabpaojnaaGreatW.PrintWords Go.Proofs.YtpjjeeabpaojnaaGreatW.PrintLast Go.Proofs.YtpjjeeabpaojnaaGreatW.PrintMore
open Go.Proofs.YtpjjeeabpaojnaaGreatL Go.Proofs.YtpjjeeabpaojnaaGreat.LawK Go.Proofs.YtpjjeeabpaojnaaGreat.BoardK Go.Proofs.YtpjjeeabpaojnaaGreat.Walk Go.Proofs.YtpjjeeabpaojnaaGreat.Q
theorem run_store_func {P:Program} {w:World} {a:Addr} {m:Mode} (f:Fn) (xs:Array Value) (ys:Array Value):(store a (.func f xs ys) m).run P w=stored P w a (.func f xs ys) m:=run_store P w a _ m rfl
attribute [local go_sem] run_store_func
section
variable (k : Blks) (hk : k.Apart) (Inv : List (List Int) → World → Prop) (hI : ∀ vis w w', Inv vis w → Still k.has w w' → Inv vis w') (R C : Nat) (RI CI : Int) (hRI : RI = R) (hCI : CI = C) (l : List Int) (A0 : Option Addr) (c0 cp : Nat) (hc0 : l.length ≤ c0) (cc1 : Value)
  (hL : ∀ vis w, Inv vis w → Kd.C (Kd.int .i64) w A0 l.length l)
  (hl : l.length = R) (hR : R ≤ 6) (hC : C ≤ 6) (hb : ∀ i (hi : i < l.length), 0 ≤ l[i] ∧ l[i] < 2 ^ C)
  (P : List (List Int) → List Int → Prop) (hdo : ∀ vis ps w, ps.length = R → P vis ps → WSt k Inv RI CI R cp l A0 c0 (.func (.func 85) #[] #[cc1]) vis ps w →
    Calls Tryz.prog 85 #[.slice (some ⟨k.a, 0, none⟩) R cp, cc1] w fun e w' => e = .returned (.bool true) ∧ WSt k Inv RI CI R cp l A0 c0 (.func (.func 85) #[] #[cc1]) (vis ++ [ps]) ps w')
include hk hI hRI hCI hc0 hL hl hR hC hb hdo
set_option maxHeartbeats 4000000 in
set_option maxRecDepth 100000 in
theorem row_calls:∀ (d r t:Nat) (rI tI:Int),rI=r→tI=t→r + d=R→t < 64→∀ vis ps w,ps.length=R→(∀ a q b,waysFrom l C d r t (ps.take r)=a ++ q :: b→P (vis ++ a) q)→WSt k Inv RI CI R cp l A0 c0 (.func (.func 85) #[] #[cc1]) vis ps w →
  Calls Tryz.prog 89 #[.int .i64 rI,.int .i64 tI,.pointer (some ⟨k.b,0,none⟩),.pointer (some ⟨k.d,0,none⟩),.pointer (some ⟨k.p,0,none⟩),.pointer (some ⟨k.g,0,none⟩),.pointer (some ⟨k.r,0,none⟩)] w fun e w'=>e=.returned (.tuple #[]) ∧
   ∃ ps',ps'.length=R∧ps'.take r=ps.take r∧WSt k Inv RI CI R cp l A0 c0 (.func (.func 85) #[] #[cc1]) (vis ++ waysFrom l C d r t (ps.take r)) ps' w'
|0,r,t,rI,tI,hr,ht,hrd,ht6,vis,ps,w,hps,hPP,hst=>by
  have hP0:P vis ps:=by have:=hPP [] ps [] (by rw [waysFrom,List.take_of_length_le (by omega)];rfl);rwa [List.append_nil] at this
  have CX:=Lib.hid (fun W (h:Aside0 (WSt k Inv RI CI R cp l A0 c0 (.func (.func 85) #[] #[cc1]) vis ps W))=>hdo vis ps W hps hP0 h.out)
  have MV:=Lib.hid (fun W (h:Aside0 (WSt k Inv RI CI R cp l A0 c0 (.func (.func 85) #[] #[cc1]) (vis ++ [ps]) ps W))=>h.out.setG hI hk)
  have e0:(rI == RI)=true:=beq_iff_eq.mpr (by omega)
  have e1:=za (show ps.take r=ps from List.take_of_length_le (by omega))
  have hz1:w.cell? ⟨k.b,0,none⟩=some (.int .i64 RI):=(ze hst.cB 0).trans rfl
  have hz2:w.cell? ⟨k.d,0,none⟩=some (.func (.func 85) #[] #[cc1]):=(ze hst.cD 0).trans rfl
  have hz3:w.cell? ⟨k.p,0,none⟩=some (.slice (some ⟨k.a,0,none⟩) R cp):=(ze hst.cP 0).trans rfl
  have HS:=za hst
  have HP:=za hps
  have hu24:=Tryz.underlying26
  clear hdo hst hps hr ht hrd ht6 hRI hCI hk hI hL hl hR hC hb hc0 hPP hP0
  go_enter Tryz.func89,Tryz.ntmps89
  go_wp2_with (first|(go_at_call 85;(refine (CX.out _ HS).mono ?_);rintro e w2 ⟨rfl,hs2⟩;have hz4:w2.cell? ⟨k.g,0,none⟩=some (.bool true):=(ze hs2.cG 0).trans rfl;have hf4:=zf hs2.cG 0;have HS2:=za hs2;clear hs2))
  first|go_end0|((try simp only [Exit.inBlock,Exit.then]);refine bodyPost_ret (results_none rfl _ _ _) rfl ?_)
  refine ⟨rfl,ps,HP.out,rfl,?_⟩
  rw [e1.out]
  exact MV.out _ HS2
|d + 1,r,t,rI,tI,hr,ht,hrd,ht6,vis,ps,w,hps,hPP,hst=>by
  have IH:=Lib.hid (fun (t':Nat) (tI':Int) (h2:tI'=(t':Int)) (h3:t' < 64) vis ps W (h4:ps.length=R) (h5:∀ a q b,waysFrom l C d (r + 1) t' (ps.take (r + 1))=a ++ q :: b→P (vis ++ a) q) (h:WSt k Inv RI CI R cp l A0 c0 (.func (.func 85) #[] #[cc1]) vis ps W)=>row_calls d (r + 1) t' (wrap64 (rI + 1)) tI' (by rw [hr,w64 (by omega) (by omega)];rfl) h2 (by omega) h3 vis ps W h4 h5 h)
  have MVB:=Lib.hid (fun vis ps W W' (h:WSt k Inv RI CI R cp l A0 c0 (.func (.func 85) #[] #[cc1]) vis ps W) (hb:Below W.heap.size W W')=>h.below hI hb)
  have MVA:=Lib.hid (fun vis ps W (h:WSt k Inv RI CI R cp l A0 c0 (.func (.func 85) #[] #[cc1]) vis ps W) (i c:Int)=>h.setA hI hk i c)
  have HL:=Lib.hid (fun vis ps W (h:WSt k Inv RI CI R cp l A0 c0 (.func (.func 85) #[] #[cc1]) vis ps W)=>hL vis W h.inv)
  have HASF:=Lib.hid (fun (j:Nat) (hj:j≤64)=>has_f RI CI (l:=l) (i:=r) (j:=j) (by omega) (hb r (by omega)).1 (by have:=(hb r (by omega)).2;have:=two_pow_six hC;omega) hj)
  have e0:(rI == RI)=false:=beq_eq_false_iff_ne.mpr (by omega)
  have z1:w.cell? ⟨k.b,0,none⟩=some (.int .i64 RI):=(ze hst.cB 0).trans rfl
  have HS:=za hst
  have HP:=za hps
  have HR:=za hr
  have HT:=za ht
  have HT6:=za ht6
  have HRD:=za hrd
  have HCI:=za hCI
  have HC0:=za hc0
  have HC6:=za hC
  have HR6:=za hR
  have hu24:=Tryz.underlying26
  obtain ⟨pre,hpre⟩:∃ pre,pre=ps.take r:=⟨_,rfl⟩
  rw [← hpre] at hPP ⊢
  have HPP:=za hPP
  have HPRE:=za hpre
  have plt:=eq_true (show 0≤rI by omega)
  have plt2:=eq_true (show rI < (R:Int) by omega)
  clear hdo hst hps hr ht hrd ht6 hRI hCI hk hI hL hl hR hC hb hc0 hpre hPP row_calls
  go_enter Tryz.func89,Tryz.ntmps89
  go_wp2
  go_loopg [9] (C + 1) (fun kq v9 w'=>∃ (x9:Int),v9=.int .i64 x9∧Aside0 (∃ (j:Nat) (ps':List Int),x9=-1 + j∧j + kq=C + 1∧ps'.length=R∧ps'.take r=pre∧WSt k Inv RI CI R cp l A0 c0 (.func (.func 85) #[] #[cc1]) (vis ++ (iota (-1) j).flatMap (colWays l r t pre (waysFrom l C d (r + 1)))) ps' w'))
  case atStart=>exact ⟨-1,rfl,⟨0,ps,by omega,by omega,HP.out,HPRE.out.symm,by simpa [iota] using HS.out⟩⟩
  case round =>
   clear z1
   obtain ⟨x9,rfl,HX⟩:=hrel
   obtain ⟨j,qs,hx,hj,hql,hqt,hs⟩:=HX.out
   clear HX
   have HX:=za hx
   have HQL:=za hql
   have HQT:=za hqt
   have HS2:=za hs
   have HJ:=za hj
   have z1:wr.cell? ⟨k.b,1,none⟩=some (.int .i64 CI):=(ze hs.cB 1).trans rfl
   have z2:wr.cell? ⟨k.g,0,none⟩=some (.bool true):=(ze hs.cG 0).trans rfl
   have z3:wr.cell? ⟨k.b,0,none⟩=some (.int .i64 RI):=(ze hs.cB 0).trans rfl
   have z4:wr.cell? ⟨k.b,2,none⟩=some (.slice A0 l.length c0):=(ze hs.cB 2).trans rfl
   clear hx hj hql hqt hs
   by_cases c1:x9 < CI
   ·
    have c1b:decide (x9 < CI)=true:=decide_eq_true c1
    cases gk with
   |zero=>exact absurd c1 (by have:=HX.out;have:=HJ.out;have:=HCI.out;omega)
   |succ k1 =>
     have EW:=za (show wrap64 (x9 + 1)=-1 + ((j + 1:Nat):Int) by have:=HX.out;have:=HJ.out;have:=HC6.out;rw [w64 (by omega) (by omega)];omega)
     have EJ:=za (show j + 1 + k1=C + 1 by have:=HJ.out;omega)
     have ES:=za (show (iota (-1) (j + 1)).flatMap (colWays l r t pre (waysFrom l C d (r + 1)))=(iota (-1) j).flatMap (colWays l r t pre (waysFrom l C d (r + 1))) ++ colWays l r t pre (waysFrom l C d (r + 1)) x9 by rw [iota_snoc,List.flatMap_append,HX.out];simp)
     have C1:=za c1
     clear c1
     by_cases c2:0≤x9
     ·
      have c2b:decide (0≤x9)=true:=decide_eq_true c2
      have c2e:=eq_true c2
      obtain ⟨xn,hxn⟩:∃ xn:Nat,x9=xn:=⟨x9.toNat,by omega⟩
      have HXN:=za hxn
      have HX6:=za (show xn < 6 by have:=C1.out;have:=HCI.out;have:=HC6.out;omega)
      have A1:=za (show impl_Board_has.f RI CI l rI x9=some (cell l r xn) by rw [HR.out,hxn];exact HASF.out xn (by have:=HX6.out;omega))
      obtain ⟨sh,hsh⟩:∃ s:Int,shr .i64 tI x9=s:=⟨_,rfl⟩
      have hsh1:(tI / 2 ^ min x9.toNat 64)=sh:=hsh
      have BT:Go.bits .and .i64 sh 1=if t.testBit xn then 1 else 0:=by rw [← hsh,HT.out,hxn];exact bit_and t xn (by have:=HT6.out;omega) (by have:=HX6.out;omega)
      clear c2 hxn
      by_cases c3:cell l r xn=true
      ·
       rw [c3] at A1
       by_cases c4:t.testBit xn=true
       ·
        have c4b:(Go.bits .and .i64 sh 1 == 1)=true:=by rw [BT,if_pos c4];rfl
        have NIL:=za (show colWays l r t pre (waysFrom l C d (r + 1)) x9=[] by have:=HXN.out;unfold colWays;rw [if_neg (by omega),if_neg (by rw [HXN.out];simp [c4])])
        clear c3 c4 BT hsh
        go_wp2_with (first|(go_at_call 66;(refine (impl_Board_has.calls RI CI _ _ l rI x9 true _ ?side1 ?side2 A1.out).mono ?_);(case side1=>exact HL.out _ _ _ HS2.out);(case side2=>exact HC0.out);rintro e w2 ⟨rfl,hb2⟩;have HS3:=za (MVB.out _ _ _ _ HS2.out hb2);clear hb2))
        go_roundg k1
        case measure=>omega
        case rel=>exact ⟨wrap64 (x9 + 1),(by first|rfl|(simp;done)),⟨j + 1,qs,EW.out,EJ.out,HQL.out,HQT.out,by rw [ES.out,NIL.out,List.append_nil];exact HS3.out⟩⟩
       ·
        have c4b:(Go.bits .and .i64 sh 1 == 1)=false:=by rw [BT,if_neg c4];rfl
        have c4f:t.testBit xn=false:=by simpa using c4
        have ONE:=za (show colWays l r t pre (waysFrom l C d (r + 1)) x9=waysFrom l C d (r + 1) (t ||| 2 ^ xn) (pre ++ [x9]) by have:=HXN.out;unfold colWays;rw [if_neg (by omega),HXN.out,Int.toNat_natCast,if_pos (by rw [c3,c4f];rfl)])
        obtain ⟨ji,hji⟩:∃ s:Int,shl .i64 1 x9=s:=⟨_,rfl⟩
        have hji_:(IntKind.i64.wrap (1 * 2 ^ min x9.toNat 64))=ji:=hji
        have hjiu:(IntKind.i64.wrap (2 ^ min x9.toNat 64))=ji:=by have h_:=hji_;rw [Int.one_mul] at h_;exact h_
        have p2x:=Nat.pow_le_pow_right (show 0 < 2 by decide) (show xn≤5 by have:=HX6.out;omega)
        have OR:=za (show Go.bits .or .i64 tI ji=((t ||| 2 ^ xn:Nat):Int) by rw [← hji,HT.out,HXN.out,shl_one xn (by have:=HX6.out;omega)];exact or_nat _ _ (by have:=HT6.out;omega) (by omega))
        have OR6:=za (show t ||| 2 ^ xn < 64 from Nat.or_lt_two_pow (n:=6) HT6.out (by omega))
        clear c3 c4 c4f BT hsh hji p2x
        have HRT:=za (show rI.toNat=r by rw [HR.out];rfl)
        have HPT:=za (show (qs.set rI.toNat x9).take (r + 1)=pre ++ [x9] by have hrl:r < qs.length:=(by have:=HQL.out;have:=HRD.out;omega);rw [HRT.out,List.take_add_one,List.take_set_of_le (Nat.le_refl _),HQT.out];simp [hrl])
        have NXT:=za (show ∀ a q b,waysFrom l C d (r + 1) (t ||| 2 ^ xn) ((qs.set rI.toNat x9).take (r + 1))=a ++ q :: b→P ((vis ++ (iota (-1) j).flatMap (colWays l r t pre (waysFrom l C d (r + 1)))) ++ a) q from fun a q b hq=>by rw [HPT.out,← ONE.out] at hq;rw [List.append_assoc];exact HPP.out _ q (b ++ (iota (x9 + 1) (C + 1 - j - 1)).flatMap (colWays l r t pre (waysFrom l C d (r + 1)))) (by rw [ways_cut l C d r t pre j (by have:=HX.out;have:=C1.out;have:=HCI.out;omega) HX.out,hq,List.append_assoc,List.append_assoc];rfl))
        go_wp2_with (first|(go_at_call 66;(refine (impl_Board_has.calls RI CI _ _ l rI x9 true _ ?side1 ?side2 A1.out).mono ?_);(case side1=>exact HL.out _ _ _ HS2.out);(case side2=>exact HC0.out);rintro e w2 ⟨rfl,hb2⟩;have HS3:=za (MVB.out _ _ _ _ HS2.out hb2);clear hb2;have z5:w2.cell? ⟨k.p,0,none⟩=some (.slice (some ⟨k.a,0,none⟩) R cp):=(ze HS3.out.cP 0).trans rfl;obtain ⟨z6,f6⟩:=Kd.R_celln 0 HS3.out.cA rI (of_eq_true plt) (of_eq_true plt2))|((with_reducible refine gate_store (t:=3) (p:=46) rfl ?_);refine store_event (t:=3) (p:=46) (v:=?vo) (w1:=(w2.setCell ⟨k.a,rI.toNat,none⟩ (.int .i64 x9))) ?hg ?ho ?hn ?hr ?_;(case ho=>rfl);(case hg=>rfl);(case hn=>rfl);(case hr=>first|(go_simp;done)|(go_simp;rfl));intro w4 hw;have HS4:=za (by rw [hw];exact MVA.out _ _ _ HS3.out rI x9:WSt k Inv RI CI R cp l A0 c0 (.func (.func 85) #[] #[cc1]) (vis ++ (iota (-1) j).flatMap (colWays l r t pre (waysFrom l C d (r + 1)))) (qs.set rI.toNat x9) w4);clear hw;have z7:w4.cell? ⟨k.r,0,none⟩=_:=(ze HS4.out.cR 0).trans rfl)|(go_at_call 89;(refine (IH.out (t ||| 2 ^ xn) _ OR.out OR6.out _ (qs.set rI.toNat x9) _ (by rw [List.length_set];exact HQL.out) NXT.out HS4.out).mono ?_);rintro e w5 ⟨rfl,hex⟩;have HE:=za hex;clear hex))
        go_roundg k1
        case measure=>omega
        case rel =>
         obtain ⟨qs2,hl2,ht2,hs5⟩:=HE.out
         have hrt:=HRT.out
         have hrl:r < qs.length:=by have:=HQL.out;have:=HRD.out;omega
         have hpt:=HPT.out
         refine ⟨wrap64 (x9 + 1),(by first|rfl|(simp;done)),⟨j + 1,qs2,EW.out,EJ.out,hl2,?_,?_⟩⟩
         ·
          have h3:=congrArg (List.take r) ht2
          rw [List.take_take,List.take_take,Nat.min_eq_left (by omega),hrt,List.take_set_of_le (Nat.le_refl _),HQT.out] at h3
          exact h3
         ·
          rw [hpt,List.append_assoc] at hs5
          rw [ES.out,ONE.out]
          exact hs5
      ·
       have c3f:cell l r xn=false:=by simpa using c3
       rw [c3f] at A1
       have NIL:=za (show colWays l r t pre (waysFrom l C d (r + 1)) x9=[] by have:=HXN.out;unfold colWays;rw [if_neg (by omega),if_neg (by rw [HXN.out];simp [c3f])])
       clear c3 c3f BT hsh
       go_wp2_with (first|(go_at_call 66;(refine (impl_Board_has.calls RI CI _ _ l rI x9 false _ ?side1 ?side2 A1.out).mono ?_);(case side1=>exact HL.out _ _ _ HS2.out);(case side2=>exact HC0.out);rintro e w2 ⟨rfl,hb2⟩;have HS3:=za (MVB.out _ _ _ _ HS2.out hb2);clear hb2))
       go_roundg k1
       case measure=>omega
       case rel=>exact ⟨wrap64 (x9 + 1),(by first|rfl|(simp;done)),⟨j + 1,qs,EW.out,EJ.out,HQL.out,HQT.out,by rw [ES.out,NIL.out,List.append_nil];exact HS3.out⟩⟩
     ·
      have c2b:decide (0≤x9)=false:=decide_eq_false c2
      have ONE:=za (show colWays l r t pre (waysFrom l C d (r + 1)) x9=waysFrom l C d (r + 1) t (pre ++ [x9]) by unfold colWays;rw [if_pos (by omega)])
      clear c2
      have z5:wr.cell? ⟨k.p,0,none⟩=some (.slice (some ⟨k.a,0,none⟩) R cp):=(ze HS2.out.cP 0).trans rfl
      obtain ⟨z6,f6⟩:=Kd.R_celln 0 HS2.out.cA rI (of_eq_true plt) (of_eq_true plt2)
      have HRT:=za (show rI.toNat=r by rw [HR.out];rfl)
      have HPT:=za (show (qs.set rI.toNat x9).take (r + 1)=pre ++ [x9] by have hrl:r < qs.length:=(by have:=HQL.out;have:=HRD.out;omega);rw [HRT.out,List.take_add_one,List.take_set_of_le (Nat.le_refl _),HQT.out];simp [hrl])
      have NXT:=za (show ∀ a q b,waysFrom l C d (r + 1) t ((qs.set rI.toNat x9).take (r + 1))=a ++ q :: b→P ((vis ++ (iota (-1) j).flatMap (colWays l r t pre (waysFrom l C d (r + 1)))) ++ a) q from fun a q b hq=>by rw [HPT.out,← ONE.out] at hq;rw [List.append_assoc];exact HPP.out _ q (b ++ (iota (x9 + 1) (C + 1 - j - 1)).flatMap (colWays l r t pre (waysFrom l C d (r + 1)))) (by rw [ways_cut l C d r t pre j (by have:=HX.out;have:=C1.out;have:=HCI.out;omega) HX.out,hq,List.append_assoc,List.append_assoc];rfl))
      go_wp2_with (first|((with_reducible refine gate_store (t:=3) (p:=46) rfl ?_);refine store_event (t:=3) (p:=46) (v:=?vo) (w1:=(wr.setCell ⟨k.a,rI.toNat,none⟩ (.int .i64 x9))) ?hg ?ho ?hn ?hr ?_;(case ho=>rfl);(case hg=>rfl);(case hn=>rfl);(case hr=>first|(go_simp;done)|(go_simp;rfl));intro w4 hw;have HS4:=za (by rw [hw];exact MVA.out _ _ _ HS2.out rI x9:WSt k Inv RI CI R cp l A0 c0 (.func (.func 85) #[] #[cc1]) (vis ++ (iota (-1) j).flatMap (colWays l r t pre (waysFrom l C d (r + 1)))) (qs.set rI.toNat x9) w4);clear hw;have z7:w4.cell? ⟨k.r,0,none⟩=_:=(ze HS4.out.cR 0).trans rfl)|(go_at_call 89;(refine (IH.out t _ HT.out HT6.out _ (qs.set rI.toNat x9) _ (by rw [List.length_set];exact HQL.out) NXT.out HS4.out).mono ?_);rintro e w5 ⟨rfl,hex⟩;have HE:=za hex;clear hex))
      go_roundg k1
      case measure=>omega
      case rel =>
       obtain ⟨qs2,hl2,ht2,hs5⟩:=HE.out
       have hrt:=HRT.out
       have hrl:r < qs.length:=by have:=HQL.out;have:=HRD.out;omega
       have hpt:=HPT.out
       refine ⟨wrap64 (x9 + 1),(by first|rfl|(simp;done)),⟨j + 1,qs2,EW.out,EJ.out,hl2,?_,?_⟩⟩
       ·
        have h3:=congrArg (List.take r) ht2
        rw [List.take_take,List.take_take,Nat.min_eq_left (by omega),hrt,List.take_set_of_le (Nat.le_refl _),HQT.out] at h3
        exact h3
       ·
        rw [hpt,List.append_assoc] at hs5
        rw [ES.out,ONE.out]
        exact hs5
   ·
    have c1b:decide (x9 < CI)=false:=decide_eq_false c1
    have FIN:=za (show j=C + 1 by have:=HX.out;have:=HJ.out;have:=HCI.out;omega)
    clear c1
    go_wp2
    first|go_end0|((try simp only [Exit.inBlock,Exit.then]);refine bodyPost_ret (results_none rfl _ _ _) rfl ?_)
    exact ⟨rfl,qs,HQL.out,HQT.out,by have:=HS2.out;rw [FIN.out] at this;exact this⟩
end
section
variable (Inv : (Nat → Prop) → List (List Int) → World → Prop) (hI : ∀ S vis w w', Inv S vis w → Still S w w' → Inv S vis w') (R C : Nat) (RI CI : Int) (hRI : RI = R) (hCI : CI = C) (l : List Int) (A0 : Option Addr) (c0 : Nat) (hc0 : l.length ≤ c0) (cc1 : Value)
  (hL : ∀ S vis w, Inv S vis w → Kd.C (Kd.int .i64) w A0 l.length l)
  (hl : l.length = R) (h1R : 1 ≤ R) (hR : R ≤ 6) (hC : C ≤ 6) (hb : ∀ i (hi : i < l.length), 0 ≤ l[i] ∧ l[i] < 2 ^ C) (w0 : World)
  (h0 : ∀ S w, (∀ i, S i → w0.heap.size ≤ i) → Below w0.heap.size w0 w → Inv S [] w)
  (hdo : ∀ S vis ps w a cp, (∀ i, S i → w0.heap.size ≤ i) → (∀ i, S i → i < w.heap.size) → ps.length = R → (∃ b, waysFrom l C R 0 0 [] = vis ++ ps :: b) → S a → Kd.C (Kd.int .i64) w (some ⟨a, 0, none⟩) R ps → R ≤ cp → Inv S vis w →
    Calls Tryz.prog 85 #[.slice (some ⟨a, 0, none⟩) R cp, cc1] w fun e w' => e = .returned (.bool true) ∧ Inv S (vis ++ [ps]) w' ∧ (∀ i, S i → i < w.heap.size → w'.heap[i]? = w.heap[i]?))
include hI hRI hCI hc0 hL hl h1R hR hC hb h0 hdo
set_option maxHeartbeats 4000000 in
set_option maxRecDepth 100000 in
theorem walk_calls:Calls Tryz.prog 74 #[.agg #[.int .i64 RI,.int .i64 CI,.slice A0 l.length c0],.func (.func 85) #[] #[cc1]] w0 fun e w'=>e=.returned (.tuple #[])∧∃ S,(∀ i,S i→w0.heap.size≤i)∧Inv S (waysFrom l C R 0 0 []) w':=by
 have KEY:∀ (k:Blks) (cp:Nat) W,k.Apart→(∀ i,k.has i→w0.heap.size≤i)→R≤cp→WSt k (Inv k.has) RI CI R cp l A0 c0 (.func (.func 85) #[] #[cc1]) [] (List.replicate R 0) W →
   Calls Tryz.prog 89 #[.int .i64 0,.int .i64 0,.pointer (some ⟨k.b,0,none⟩),.pointer (some ⟨k.d,0,none⟩),.pointer (some ⟨k.p,0,none⟩),.pointer (some ⟨k.g,0,none⟩),.pointer (some ⟨k.r,0,none⟩)] W fun e w'=>e=.returned (.tuple #[])∧∃ S,(∀ i,S i→w0.heap.size≤i)∧Inv S (waysFrom l C R 0 0 []) w':=by
  intro k cp W hk hS hcp hst
  have:=row_calls k hk (Inv k.has) (hI k.has) R C RI CI hRI hCI l A0 c0 cp hc0 cc1 (hL k.has) hl hR hC hb (fun vis q=>∃ b,waysFrom l C R 0 0 []=vis ++ q :: b) (fun vis ps w hps hmem hs=>by
   obtain ⟨_,_,hC'⟩:=Kd.R_reads' hs.cA
   rw [hps] at hC'
   have hlt:k.a < w.heap.size:=by obtain ⟨cells,hc⟩:=Kd.R_typed hs.cA k.a rfl;exact blk_lt hc
   have hSlt:∀ i,k.has i→i < w.heap.size:=by
    rintro i (rfl|rfl|rfl|rfl|rfl|rfl)
    ·
     exact blk_lt hs.cB
    ·
     exact blk_lt hs.cD
    ·
     exact hlt
    ·
     exact blk_lt hs.cP
    ·
     exact blk_lt hs.cG
    ·
     exact blk_lt hs.cR
   refine (hdo k.has vis ps w k.a cp hS hSlt hps hmem (.inr (.inr (.inl rfl))) hC' hcp hs.inv).mono ?_
   rintro e w' ⟨rfl,hi,hkeep⟩
   refine ⟨rfl,(hkeep _ (.inl rfl) (blk_lt hs.cB)).trans hs.cB,(hkeep _ (.inr (.inl rfl)) (blk_lt hs.cD)).trans hs.cD,Kd.R_step hs.cA (fun i hi _=>by subst hi;exact hkeep _ (.inr (.inr (.inl rfl))) hlt),(hkeep _ (.inr (.inr (.inr (.inl rfl)))) (blk_lt hs.cP)).trans hs.cP,(hkeep _ (.inr (.inr (.inr (.inr (.inl rfl))))) (blk_lt hs.cG)).trans hs.cG,(hkeep _ (.inr (.inr (.inr (.inr (.inr rfl))))) (blk_lt hs.cR)).trans hs.cR,hi⟩)
   R 0 0 0 0 rfl rfl (by omega) (by omega) [] (List.replicate R 0) W (by simp) (fun a q b hq=>⟨b,by simpa using hq⟩) hst
  refine this.mono ?_
  rintro e w' ⟨rfl,ps',_,_,hw⟩
  exact ⟨rfl,k.has,hS,by simpa using hw.inv⟩
 have KX:=Lib.hid KEY;have H0:=Lib.hid h0;have hu24:=Tryz.underlying26;have p1:=za (show 0≤RI by omega);have p2:=za (show RI.toNat * 8≤281474976710656 by omega);have p3:=za (show RI.toNat=R by omega);have p4:=za h1R;clear KEY h0 hdo hb hC hR hl hL hc0 hCI hRI hI h1R;go_enter Tryz.func74,Tryz.ntmps74
 go_wp2_with (first
 |((with_reducible refine zv (N:=2) rfl ?_);refine zw ?hg (N:=2) ?hd (cs:=#[.int .i64 RI,.int .i64 CI,.slice A0 l.length c0]) (t:=26) ?hr ?_;(case hd=>rfl);(case hg=>rfl);(case hr=>first|(go_simp;done)|(go_simp;rfl));intro gb hg w1 hbox hb;have G1:=za hg;have K1:=za hbox;have B1:=za hb;clear hg hbox hb;have z1:w1.cell? ⟨gb,0,none⟩=some (.int .i64 RI):=(ze K1.out 0).trans rfl)
 |((with_reducible refine zv (N:=3) rfl ?_);refine zw ?hg (N:=3) ?hd (cs:=#[.func (.func 85) #[] #[cc1]]) (t:=62) ?hr ?_;(case hd=>rfl);(case hg=>rfl);(case hr=>first|(go_simp;done)|(go_simp;rfl));intro gd hg w2 hbox hb;have G2:=za hg;have K2:=za hbox;have B2:=za hb;clear hg hbox hb;have z2:w2.cell? ⟨gb,0,none⟩=some (.int .i64 RI):=(ze (zp K1.out B2.out) 0).trans rfl)
 |((with_reducible refine zv (N:=9) rfl ?_);refine Kd.R_make (Kd.int .i64) (w0:=w2) w2.heap.size 3 rfl (N:=9) rfl 24 _ _ rfl RI rfl rfl Tryz.underlying24 (.int .i64 0) 8 info3 rfl (by decide) (by omega) 0 (ok:=fun _=>True) (okp:=fun _=>True) rfl (fun _ hk=>hk) trivial p1.out p2.out (Below.refl _ _) (Nat.le_refl _) ?_;intro v3 w3 ho3 hb hg_ hnew_;clear hg_ hnew_;rw [p3.out] at ho3;obtain ⟨ga,cp,hv3,hga,hga2,cells3,hc3⟩:=Kd.R_form ho3 (by rw [List.length_replicate];exact p4.out);rw [List.length_replicate] at hv3;subst hv3;have G3:=za (And.intro hga hga2);have K3:=za hc3;clear hga hga2 hc3;have B3:=za hb;have O3:=za ho3;clear hb ho3)
 |((with_reducible refine zv (N:=4) rfl ?_);refine zw ?hg (N:=4) ?hd (cs:=#[.slice none 0 0]) (t:=24) ?hr ?_;(case hd=>rfl);(case hg=>rfl);(case hr=>first|(go_simp;done)|(go_simp;rfl));intro gp hg w4 hbox hb;have G4:=za hg;have K4:=za hbox;have B4:=za hb;clear hg hbox hb)
 |((with_reducible refine zv (N:=5) rfl ?_);refine zw ?hg (N:=5) ?hd (cs:=#[.bool false]) (t:=4) ?hr ?_;(case hd=>rfl);(case hg=>rfl);(case hr=>first|(go_simp;done)|(go_simp;rfl));intro gg hg w5 hbox hb;have G5:=za hg;have K5:=za hbox;have B5:=za hb;clear hg hbox hb;have y1:w5.cell? ⟨gp,0,none⟩=some (.slice none 0 0):=(ze (zp K4.out B5.out) 0).trans rfl;have f1:w5.frozen? ⟨gp,0,none⟩=false:=zf (zp K4.out B5.out) 0)
 |((with_reducible refine gate_store (t:=24) (p:=4) rfl ?_);refine store_event (t:=24) (p:=4) (v:=?vo) (w1:=(w5.setCell ⟨gp,0,none⟩ (.slice (some ⟨ga,0,none⟩) R cp))) ?hg ?ho ?hn ?hr ?_;(case ho=>rfl);(case hg=>rfl);(case hn=>rfl);(case hr=>first|(go_simp;done)|(go_simp;rfl));intro w6 hw;have E6:=za hw;clear hw;have N65:=za (show gg ≠ gp by rw [G5.out];exact Nat.ne_of_gt (blk_lt K4.out));have K56:=za (show w6.heap[gg]?=some (.cells #[.bool false] 4 (0,0)) by rw [E6.out];exact blk_far K5.out N65.out _);have y2:w6.cell? ⟨gg,0,none⟩=some (.bool false):=(ze K56.out 0).trans rfl;have f2:w6.frozen? ⟨gg,0,none⟩=false:=zf K56.out 0)
 |((with_reducible refine zv (N:=6) rfl ?_);refine zw ?hg (N:=6) ?hd (cs:=#[.nilFunc]) (t:=92) ?hr ?_;(case hd=>rfl);(case hg=>rfl);(case hr=>first|(go_simp;done)|(go_simp;rfl));intro gr hg w8 hbox hb;have G8:=za hg;have K8:=za hbox;have B8:=za hb;clear hg hbox hb;have y3:w8.cell? ⟨gr,0,none⟩=some .nilFunc:=(ze K8.out 0).trans rfl;have f3:w8.frozen? ⟨gr,0,none⟩=false:=zf K8.out 0)
 |(go_at_call 89;(refine (KX.out ⟨gb,gd,ga,gp,gg,gr⟩ cp _ ?sa ?ss ?sc ?sw).mono ?_);(case sa=>(have o1:=blk_lt K1.out;have o2:=G2.out;have o3:=blk_lt K2.out;have o4:=G3.out;have o5:=G4.out;have o6:=blk_lt K4.out;have o7:=G5.out;have o8:=blk_lt K5.out;have o9:w6.heap.size=w5.heap.size:=(by rw [E6.out];simp [World.setCell]);have o10:(w6.setCell ⟨gg,0,none⟩ (.bool true)).heap.size=w6.heap.size:=(by simp [World.setCell]);have o11:=G8.out;have o12:=G1.out;constructor <;> (try simp only []) <;> omega));(case ss=>(have o1:=blk_lt K1.out;have o2:=G2.out;have o3:=blk_lt K2.out;have o4:=G3.out;have o5:=G4.out;have o6:=blk_lt K4.out;have o7:=G5.out;have o8:=blk_lt K5.out;have o9:w6.heap.size=w5.heap.size:=(by rw [E6.out];simp [World.setCell]);have o10:(w6.setCell ⟨gg,0,none⟩ (.bool true)).heap.size=w6.heap.size:=(by simp [World.setCell]);have o11:=G8.out;have o12:=G1.out;rintro i (rfl|rfl|rfl|rfl|rfl|rfl) <;> (try simp only []) <;> omega));(case sc=>exact (Kd.R_reads' O3.out).2.1);(case sw=>(have o1:=blk_lt K1.out;have o2:=G2.out;have o3:=blk_lt K2.out;have o4:=G3.out;have o5:=G4.out;have o6:=blk_lt K4.out;have o7:=G5.out;have o8:=blk_lt K5.out;have o9:w6.heap.size=w5.heap.size:=(by rw [E6.out];simp [World.setCell]);have o10:(w6.setCell ⟨gg,0,none⟩ (.bool true)).heap.size=w6.heap.size:=(by simp [World.setCell]);have o11:=G8.out;have o12:=G1.out;have q1:=zp (zp (zp (zp K1.out B2.out) B3.out) B4.out) B5.out;have q2:=zp (zp (zp K2.out B3.out) B4.out) B5.out;have q3:=Kd.R_below (Kd.R_below (Kd.R_mono (Kd.R_lower (Kd.R_tight rfl O3.out) (Nat.zero_le _)) (fun i hi=>(by simpa [Value.ownBlock] using hi:i=ga))) B4.out) B5.out;have q4:=zp K4.out B5.out;have e1:gb ≠ gp:=(by omega);have e2:gd ≠ gp:=(by omega);have e3:ga ≠ gp:=(by omega);have e4:gb ≠ gg:=(by omega);have e5:gd ≠ gg:=(by omega);have e6:ga ≠ gg:=(by omega);have e7:gp ≠ gg:=(by omega);have e8:gb ≠ gr:=(by omega);have e9:gd ≠ gr:=(by omega);have e10:ga ≠ gr:=(by omega);have e11:gp ≠ gr:=(by omega);have e12:gg ≠ gr:=(by omega);have b5:Below w0.heap.size w0 w5:=(((B1.out.trans (B2.out.mono (by omega))).trans (B3.out.mono (by omega))).trans (B4.out.mono (by omega))).trans (B5.out.mono (by omega));have b7:Below w0.heap.size w0 (w6.setCell ⟨gg,0,none⟩ (.bool true)):=(by refine Below.setCell ?_ (by (try simp only []);omega) _;rw [E6.out];exact Below.setCell b5 (by (try simp only []);omega) _);have b9:Below w0.heap.size w0 (w8.setCell ⟨gr,0,none⟩ (.func (.func 89) #[] #[.pointer (some ⟨gb,0,none⟩),.pointer (some ⟨gd,0,none⟩),.pointer (some ⟨gp,0,none⟩),.pointer (some ⟨gg,0,none⟩),.pointer (some ⟨gr,0,none⟩)])):=(by exact Below.setCell (b7.trans (B8.out.mono (by omega))) (by (try simp only []);omega) _);exact ⟨(by refine blk_far (zp ?_ B8.out) e8 _;rw [E6.out];exact blk_far (blk_far q1 e1 _) e4 _),(by refine blk_far (zp ?_ B8.out) e9 _;rw [E6.out];exact blk_far (blk_far q2 e2 _) e5 _),(by refine Kd.R_far (Kd.R_below ?_ B8.out) (fun i hi=>(by rw [hi];exact e10)) _;rw [E6.out];exact Kd.R_far (Kd.R_far q3 (fun i hi=>(by rw [hi];exact e3)) _) (fun i hi=>(by rw [hi];exact e6)) _),(by refine blk_far (zp ?_ B8.out) e11 _;rw [E6.out];exact blk_far (blk_put q4 0 _ rfl) e7 _),(by refine blk_far (zp ?_ B8.out) e12 _;rw [E6.out];exact blk_put (blk_far K5.out e7.symm _) 0 _ rfl),(by exact blk_put K8.out 0 _ rfl),H0.out _ _ (by rintro i (rfl|rfl|rfl|rfl|rfl|rfl) <;> (try simp only []) <;> omega) b9⟩));rintro e w10 ⟨rfl,hfin⟩))
 (first|go_end0|((try simp only [Exit.inBlock,Exit.then]);refine bodyPost_ret (results_none rfl _ _ _) rfl ?_));exact ⟨rfl,hfin⟩
end
end Go.Proofs.YtpjjeeabpaojnaaGreat.WalkNum
end
section
namespace Go.Proofs.YtpjjeeabpaojnaaGreat.NumK
set_option linter.unusedVariables false
set_option linter.unusedSectionVars false
open Go.RowKit Go.Proofs.YtpjjeeabpaojnaaGreatW.PrintWords Go.Proofs.YtpjjeeabpaojnaaGreatW.PrintLast Go.Proofs.YtpjjeeabpaojnaaGreatW.PrintMore
open Go.Proofs.YtpjjeeabpaojnaaGreatL Go.Proofs.YtpjjeeabpaojnaaGreat.LawK Go.Proofs.YtpjjeeabpaojnaaGreat.BoardK Go.Proofs.YtpjjeeabpaojnaaGreat.Walk Go.Proofs.YtpjjeeabpaojnaaGreat.Q
def numsF (m:Nat) (vis:List (List Int)):List Int:=vis.foldl (fun o p=>o.set ((rooksN p:Nat):Int).toNat (IntKind.i64.wrap (rdOf 0 o ((rooksN p:Nat):Int) + 1))) (List.replicate m 0)
section
variable (hI : Int) (R m cp a go ga cp2 kk bs : Nat) (ps out : List Int) (w : World)
  (hps : ps.length = R) (hcp : R ≤ cp) (hr : Kd.C (Kd.int .i64) w (some ⟨a, 0, none⟩) R ps)
  (hgo : w.heap[go]? = some (.cells #[.slice (some ⟨ga, 0, none⟩) m cp2] 24 (0, 0)))
  (ho : Kd.R (Kd.int .i64) 3 w bs (fun i => i = ga) (.slice (some ⟨ga, 0, none⟩) m cp2) out)
  (hh : impl_rooks.f kk ps = some hI) (h0 : 0 ≤ hI) (h1 : hI < (m : Int))
include hps hcp hr hgo ho hh h0 h1
set_option maxHeartbeats 4000000 in
set_option maxRecDepth 100000 in
theorem nm1:Calls Tryz.prog 85 #[.slice (some ⟨a,0,none⟩) R cp,.pointer (some ⟨go,0,none⟩)] w
  fun e w'=>e=.returned (.bool true)∧∃ W2,Below w.heap.size w W2∧w'=W2.setCell ⟨ga,hI.toNat,none⟩ (.int .i64 (IntKind.i64.wrap (rdOf 0 out hI + 1))):=by
 have CX:=Lib.hid (fun (W:World) (hb:Below w.heap.size w W)=>by
  have:=impl_rooks.calls kk (some ⟨a,0,none⟩) cp ps hI W (by rw [hps];exact Kd.C_below hr hb) (by rw [hps];exact hcp) hh
  rw [hps] at this
  have h2:Calls Tryz.prog 36 #[.slice (some ⟨a,0,none⟩) R cp] W fun e w'=>e=.returned (.int .i64 hI)∧Below w.heap.size w w':=this.mono (by rintro e w' ⟨rfl,h3⟩;exact ⟨rfl,hb.trans (h3.below.mono hb.size)⟩)
  exact h2)
 have FX:=Lib.hid (fun (W:World) (hb:Below w.heap.size w W)=>Kd.R_celln 0 (Kd.R_below ho hb) hI h0 h1)
 have BO:=Aside0.mk hgo
 have hz1:w.cell? ⟨go,0,none⟩=some (.slice (some ⟨ga,0,none⟩) m cp2):=(blk_cell hgo 0).trans rfl
 have p1:=eq_true h0
 have p2:=eq_true h1
 clear hps hcp hr hgo ho hh h0 h1
 go_enter Tryz.func85,Tryz.ntmps85
 go_wp2
 go_region_with ((go_at_call 36;refine (CX.out _ (by repeat (first|exact Below.refl _ _|apply below_drew1|apply pw_below_drewN))).mono ?_;rintro e w2 ⟨rfl,hb⟩;have hb2:=Aside0.mk hb;have hz5:w2.cell? ⟨go,0,none⟩=some (.slice (some ⟨ga,0,none⟩) m cp2):=(blk_cell (blk_below BO.out hb) 0).trans rfl;obtain ⟨hx,hf⟩:=FX.out w2 hb;clear hb))
 all_goals (try go_wp2)
 all_goals go_ret
 all_goals exact ⟨rfl,w2,hb2.out,rfl⟩
end
end Go.Proofs.YtpjjeeabpaojnaaGreat.NumK
namespace Go.Proofs.YtpjjeeabpaojnaaGreat.Q
set_option linter.unusedVariables false
open Go.RowKit Go.Proofs.YtpjjeeabpaojnaaGreatW.PrintWords Go.Proofs.YtpjjeeabpaojnaaGreatW.PrintLast Go.Proofs.YtpjjeeabpaojnaaGreatW.PrintMore
open Go.Proofs.YtpjjeeabpaojnaaGreatL Go.Proofs.YtpjjeeabpaojnaaGreat.LawK Go.Proofs.YtpjjeeabpaojnaaGreat.BoardK Go.Proofs.YtpjjeeabpaojnaaGreat.Walk Go.Proofs.YtpjjeeabpaojnaaGreat.NumK Go.Proofs.YtpjjeeabpaojnaaGreat.MostK
def impl_Board_numbers.f (a0_0:Int) (a0_1:Int) (l0_2:List Int):Option (List Int):=if isBoardB a0_0 a0_1 l0_2=true then some (numsF (min a0_0 a0_1 + 1).toNat (waysFrom l0_2 a0_1.toNat l0_2.length 0 0 [])) else none
structure NInv (m go ga cp2:Nat) (l:List Int) (A0:Option Addr) (c0:Nat) (w0 W:World) (S:Nat→Prop) (vis:List (List Int)) (w:World):Prop where
 o:w.heap[go]?=some (.cells #[.slice (some ⟨ga,0,none⟩) m cp2] 24 (0,0))
 r:Kd.R (Kd.int .i64) 3 w w0.heap.size (fun i=>i=ga) (.slice (some ⟨ga,0,none⟩) m cp2) (numsF m vis)
 B:Below w0.heap.size w0 w
 s:∀ i,S i→W.heap.size≤i
set_option maxHeartbeats 4000000 in
set_option maxRecDepth 100000 in
theorem impl_Board_numbers.calls (a0_0 a0_1:Int) (A0_2:Option Addr) (c0_2:Nat) (l0_2:List Int) (r:List Int) (w:World) (hr0_2:Kd.C (Kd.int .i64) w A0_2 l0_2.length l0_2) (hc0_2:l0_2.length≤c0_2) (h:impl_Board_numbers.f a0_0 a0_1 l0_2=some r) :
  Calls Tryz.prog 64 #[.agg #[.int .i64 a0_0,.int .i64 a0_1,.slice A0_2 l0_2.length c0_2]] w fun e w'=>∃ v0_:Value,e=.returned (v0_)∧Kd.R (Kd.int .i64) 3 w' w.heap.size (fun _=>True) v0_ r∧Below w.heap.size w w':=by
 by_cases hs:isBoardB a0_0 a0_1 l0_2=true
 rotate_left
 ·
  rw [impl_Board_numbers.f,if_neg hs] at h;cases h
 rw [impl_Board_numbers.f,if_pos hs] at h
 have h:=Option.some.inj h
 obtain ⟨R,C,rfl,rfl,hlR,h1R,hR,h1C,hC,hbits⟩:=board_of hs
 obtain ⟨m,hm⟩:∃ m,m=(min (R:Int) (C:Int) + 1).toNat:=⟨_,rfl⟩
 rw [← hm,Int.toNat_natCast] at h
 have hmR:(m:Int)=(min (R:Int) (C:Int)) + 1:=by omega
 have hways:=ways_le hlR hR hC hbits
 have KEY:∀ (W:World) (go ga cp2:Nat),Below w.heap.size w W→w.heap.size≤go→w.heap.size≤ga→go ≠ ga→go < W.heap.size→ga < W.heap.size →
   NInv m go ga cp2 l0_2 A0_2 c0_2 w W (fun _=>False) [] W →
   Calls Tryz.prog 74 #[.agg #[.int .i64 (R:Int),.int .i64 (C:Int),.slice A0_2 l0_2.length c0_2],.func (.func 85) #[] #[.pointer (some ⟨go,0,none⟩)]] W fun e w'=>e=.returned (.tuple #[]) ∧
    w'.heap[go]?=some (.cells #[.slice (some ⟨ga,0,none⟩) m cp2] 24 (0,0))∧Kd.R (Kd.int .i64) 3 w' w.heap.size (fun i=>i=ga) (.slice (some ⟨ga,0,none⟩) m cp2) r∧Below w.heap.size w w':=by
  intro W go ga cp2 hBW bo ba noa lo la hst
  refine (WalkNum.walk_calls (NInv m go ga cp2 l0_2 A0_2 c0_2 w W)
   (by
    intro S vis w1 w2 hi hs1
    have kp:∀ g,g < W.heap.size→∀ {o},w1.heap[g]?=some o→w2.heap[g]?=some o:=fun g hg o ho=>(hs1.kept.2 g (blk_lt ho) (fun h=>by have:=hi.s g h;omega)).trans ho
    exact ⟨kp go lo hi.o,Kd.R_step hi.r (fun i e hlt=>by subst e;exact hs1.kept.2 _ hlt (fun h=>by have:=hi.s _ h;omega)),Still.below hi.B hs1 (fun i h=>Nat.le_trans hBW.size (hi.s i h)),hi.s⟩)
   R C R C rfl rfl l0_2 A0_2 c0_2 hc0_2 (.pointer (some ⟨go,0,none⟩))
   (fun S vis w1 hi=>Kd.C_below hr0_2 hi.B)
   hlR h1R hR hC hbits W
   (by
    intro S w1 hS hB1
    exact ⟨blk_below hst.o hB1,Kd.R_below hst.r hB1,hBW.trans (hB1.mono hBW.size),hS⟩)
   (by
    intro S vis ps w1 a cp hS hSlt hps hmem hSa hC2 hcp hi
    have hk2:=hways ps (by obtain ⟨b,hb2⟩:=hmem;rw [hb2];simp)
    obtain ⟨kk,hk⟩:=rooks_f (l:=ps) (by omega)
    refine (nm1 ((rooksN ps:Nat):Int) R m cp a go ga cp2 kk w.heap.size ps (numsF m vis) w1 hps hcp hC2 hi.o hi.r hk (by omega) (by omega)).mono ?_
    rintro e w2 ⟨rfl,W2,hb2,rfl⟩
    have hga:a ≠ ga:=fun e=>by have:=hi.s a hSa;omega
    refine ⟨rfl,⟨blk_far (blk_below hi.o hb2) noa _,?_,Below.setCell (hi.B.trans (hb2.mono hi.B.size)) (by (try simp only []);exact ba) _,hi.s⟩,fun i hSi hlt=>?_⟩
    ·
     have:=Kd.R_putn (Kd.R_below hi.r hb2) ((rooksN ps:Nat):Int) (IntKind.i64.wrap (rdOf 0 (numsF m vis) ((rooksN ps:Nat):Int) + 1))
     unfold numsF at this ⊢
     rw [List.foldl_append]
     exact this
    ·
     have:=hi.s i hSi
     rw [Below.heap_setCell _ _ _ _ (by (try simp only []);omega)]
     exact hb2.block i hlt)).mono ?_
  rintro e w' ⟨rfl,S,hS,hi⟩
  rw [hlR] at h
  exact ⟨rfl,hi.o,by rw [← h];exact hi.r,hi.B⟩
 have KX:=Lib.hid KEY
 have HJC:=Lib.hid (show (C:Int) < (R:Int)→(wrap64 ((C:Int) + 1)).toNat=m from fun hc=>by rw [w64 (by omega) (by omega)];omega)
 have HJR:=Lib.hid (show ¬ (C:Int) < (R:Int)→(wrap64 ((R:Int) + 1)).toNat=m from fun hc=>by rw [w64 (by omega) (by omega)];omega)
 have HPC:=Aside0.mk (show 0≤wrap64 ((C:Int) + 1) from by rw [w64 (by omega) (by omega)];omega)
 have HPR:=Aside0.mk (show 0≤wrap64 ((R:Int) + 1) from by rw [w64 (by omega) (by omega)];omega)
 have HQC:=Aside0.mk (show (wrap64 ((C:Int) + 1)).toNat * 8≤281474976710656 from by rw [w64 (by omega) (by omega)];omega)
 have HQR:=Aside0.mk (show (wrap64 ((R:Int) + 1)).toNat * 8≤281474976710656 from by rw [w64 (by omega) (by omega)];omega)
 have HM:=Aside0.mk (And.intro (show 0 < m by omega) (show m≤7 by omega))
 have hu24:=Tryz.underlying26
 clear KEY h hs hlR h1R hR h1C hC hbits hm hmR hways hr0_2 hc0_2
 generalize (R:Int)=RI at *
 generalize (C:Int)=CI at *
 clear R C
 have HCR:(CI < RI∧(CI < RI)=True) ∨ (¬ CI < RI∧(CI < RI)=False):=by
  by_cases hcr:CI < RI
  ·
   exact .inl ⟨hcr,eq_true hcr⟩
  ·
   exact .inr ⟨hcr,eq_false hcr⟩
 rcases HCR with ⟨hcr,q1⟩|⟨hcr,q1⟩
 all_goals have HCR:=Aside0.mk hcr
 all_goals clear hcr
 all_goals go_enter Tryz.func64,Tryz.ntmps64
 all_goals go_wp2_with (first
 |((with_reducible refine gate_dst (N:=1) rfl ?_);refine box_event ?hg (N:=1) ?hd (cs:=#[.int .i64 RI,.int .i64 CI,.slice A0_2 l0_2.length c0_2]) (t:=26) ?hr ?_;(case hd=>rfl);(case hg=>rfl);(case hr=>first|(go_simp;done)|(go_simp;rfl));intro gb hg w1 hbox hb;have G1:=Aside0.mk hg;have K1:=Aside0.mk hbox;have B1:=Aside0.mk hb;clear hg hbox hb;have z1:w1.cell? ⟨gb,0,none⟩=some (.int .i64 RI):=(blk_cell K1.out 0).trans rfl;have z2:w1.cell? ⟨gb,1,none⟩=some (.int .i64 CI):=(blk_cell K1.out 1).trans rfl)
 |((with_reducible refine gate_dst (N:=10) rfl ?_);refine Kd.R_make (Kd.int .i64) (w0:=w1) w1.heap.size 3 rfl (N:=10) rfl 24 _ _ rfl (wrap64 (CI + 1)) rfl rfl Tryz.underlying24 (.int .i64 0) 8 info3 rfl (by decide) (by omega) 0 (ok:=fun _=>True) (okp:=fun _=>True) rfl (fun _ hk=>hk) trivial HPC.out HQC.out (Below.refl _ _) (Nat.le_refl _) ?_;intro v3 w3 ho3 hb hg_ hnew_;clear hg_ hnew_;rw [HJC.out HCR.out] at ho3;obtain ⟨ga,cp2,hv3,hga,hga2,cells3,hc3⟩:=Kd.R_form ho3 (by rw [List.length_replicate];exact HM.out.1);rw [List.length_replicate] at hv3;subst hv3;have G3:=Aside0.mk (And.intro hga hga2);clear hga hga2 hc3;have B3:=Aside0.mk hb;have O3:=Aside0.mk ho3;clear hb ho3)
 |((with_reducible refine gate_dst (N:=10) rfl ?_);refine Kd.R_make (Kd.int .i64) (w0:=w1) w1.heap.size 3 rfl (N:=10) rfl 24 _ _ rfl (wrap64 (RI + 1)) rfl rfl Tryz.underlying24 (.int .i64 0) 8 info3 rfl (by decide) (by omega) 0 (ok:=fun _=>True) (okp:=fun _=>True) rfl (fun _ hk=>hk) trivial HPR.out HQR.out (Below.refl _ _) (Nat.le_refl _) ?_;intro v3 w3 ho3 hb hg_ hnew_;clear hg_ hnew_;rw [HJR.out HCR.out] at ho3;obtain ⟨ga,cp2,hv3,hga,hga2,cells3,hc3⟩:=Kd.R_form ho3 (by rw [List.length_replicate];exact HM.out.1);rw [List.length_replicate] at hv3;subst hv3;have G3:=Aside0.mk (And.intro hga hga2);clear hga hga2 hc3;have B3:=Aside0.mk hb;have O3:=Aside0.mk ho3;clear hb ho3)
 |((with_reducible refine gate_dst (N:=3) rfl ?_);refine box_event ?hg (N:=3) ?hd (cs:=#[.slice none 0 0]) (t:=24) ?hr ?_;(case hd=>rfl);(case hg=>rfl);(case hr=>first|(go_simp;done)|(go_simp;rfl));intro go hg w4 hbox hb;have G4:=Aside0.mk hg;have K4:=Aside0.mk hbox;have B4:=Aside0.mk hb;clear hg hbox hb;have y1:w4.cell? ⟨go,0,none⟩=some (.slice none 0 0):=(blk_cell K4.out 0).trans rfl;have f1:w4.frozen? ⟨go,0,none⟩=false:=blk_frozen K4.out 0;have nbo:=Aside0.mk (show gb ≠ go from Nat.ne_of_lt (by rw [G4.out];exact Nat.lt_of_lt_of_le (blk_lt K1.out) B3.out.size));have K5:=Aside0.mk (show (w4.setCell ⟨go,0,none⟩ (.slice (some ⟨ga,0,none⟩) m cp2)).heap[gb]?=some (.cells #[.int .i64 RI,.int .i64 CI,.slice A0_2 l0_2.length c0_2] 26 (0,0)) from blk_far (blk_below (blk_below K1.out B3.out) B4.out) nbo.out _);have z5:(w4.setCell ⟨go,0,none⟩ (.slice (some ⟨ga,0,none⟩) m cp2)).cell? ⟨gb,0,none⟩=some (.int .i64 RI):=(blk_cell K5.out 0).trans rfl;have z6:(w4.setCell ⟨go,0,none⟩ (.slice (some ⟨ga,0,none⟩) m cp2)).cell? ⟨gb,1,none⟩=some (.int .i64 CI):=(blk_cell K5.out 1).trans rfl;have z7:(w4.setCell ⟨go,0,none⟩ (.slice (some ⟨ga,0,none⟩) m cp2)).cell? ⟨gb,2,none⟩=some (.slice A0_2 l0_2.length c0_2):=(blk_cell K5.out 2).trans rfl)
 |(go_at_call 74;(refine (KX.out _ go ga cp2 ?sB ?s1 ?s2 ?s3 ?s4 ?s5 ?s6).mono ?_);(all_goals have o1:=blk_lt K1.out);(all_goals have o2:=G1.out);(all_goals have o4:=G3.out);(all_goals have o5:=G4.out);(all_goals have o6:=blk_lt K4.out);(all_goals have o7:=B4.out.size);(all_goals have o8:∀ v,(w4.setCell ⟨go,0,none⟩ v).heap.size=w4.heap.size:=(fun v=>by simp [World.setCell]));(all_goals have bb:Below w.heap.size w (w4.setCell ⟨go,0,none⟩ (.slice (some ⟨ga,0,none⟩) m cp2)):=Below.setCell ((B1.out.trans (B3.out.mono (by omega))).trans (B4.out.mono (by omega))) (by (try simp only []);omega) _);(case sB=>exact bb);(case s1=>omega);(case s2=>omega);(case s3=>omega);(case s4=>rw [o8];omega);(case s5=>rw [o8];omega);(case s6=>exact ⟨blk_put K4.out 0 _ rfl,Kd.R_far (Kd.R_mono (Kd.R_lower (Kd.R_tight rfl (Kd.R_below O3.out B4.out)) (by omega)) (fun i hi=>(by simpa [Value.ownBlock] using hi:i=ga))) (fun k hk=>by (try simp only []);omega) _,bb,fun _ hf=>hf.elim⟩);rintro e w5 ⟨rfl,h1,h2,h3⟩;clear o1 o2 o4 o5 o6 o7 o8 bb;have FR:=Aside0.mk h2;have FB:=Aside0.mk h3;have z8:w5.cell? ⟨go,0,none⟩=some (.slice (some ⟨ga,0,none⟩) m cp2):=(blk_cell h1 0).trans rfl;clear h1 h2 h3))
 all_goals go_ret
 all_goals exact ⟨_,rfl,Kd.R_mono FR.out (fun _ _=>trivial),FB.out⟩
end Go.Proofs.YtpjjeeabpaojnaaGreat.Q
end
section
namespace Go.Proofs.YtpjjeeabpaojnaaGreat.Q
open Go.RowKit Go.Proofs.YtpjjeeabpaojnaaGreatW.PrintWords Go.Proofs.YtpjjeeabpaojnaaGreatW.PrintLast Go.Proofs.YtpjjeeabpaojnaaGreatW.PrintMore
attribute [local go_sem] max2_int min2_int max_two min_two max_three min_three max_four min_four   -- for this text's walks alone
set_option linter.unusedVariables false
set_option linter.unusedSimpArgs false
def impl_trimmed.l0:Nat→List Int→Option (List Int)
|0,_=>none
|k + 1,x0=>if (x0.length:Int) > 0 then (if 0≤(wrap64 ((x0.length:Int) - 1)) then (if (wrap64 ((x0.length:Int) - 1)) < (x0.length:Int) then (if (rd x0 (wrap64 ((x0.length:Int) - 1)))=0 then (if (wrap64 ((x0.length:Int) - 1))≤(x0.length:Int) then (impl_trimmed.l0 k (x0.take ((wrap64 ((x0.length:Int) - 1)):Int).toNat)) else (none)) else (some x0)) else (none)) else (none)) else (some x0)
def impl_trimmed.f (k:Nat) (l0:List Int):Option (List Int):=impl_trimmed.l0 k l0
set_option maxHeartbeats 8000000 in
set_option maxRecDepth 100000 in
theorem impl_trimmed.calls (k:Nat) (P0_:Nat→Prop) (A0:Option Addr) (c0:Nat) (l0:List Int) (r:List Int) (w:World) (hs0:Kd.V (Kd.int .i64) 3 w w.heap.size (fun k_=>P0_ k_) (.slice A0 l0.length c0) l0) (h:impl_trimmed.f k l0=some r) :
  Calls Tryz.prog 63 #[.slice A0 l0.length c0] w fun e w'=>∃ v0_:Value,e=.returned (v0_)∧Kd.V (Kd.int .i64) 3 w' w.heap.size (fun k_=>(P0_ k_ ∨ w.heap.size≤k_)) v0_ r∧Below w.heap.size w w':=by
 have HO0:=za (show Kd.V (Kd.int .i64) 3 w w.heap.size (fun k_=>(P0_ k_ ∨ w.heap.size≤k_)) (.slice A0 l0.length c0) l0 from Kd.V_mono hs0 (fun k_ hk=>.inl hk));have HB:=za (Below.refl w.heap.size w);have H:(impl_trimmed.l0 k l0)=some r:=h;clear h;have H':=za H;clear H;(go_enter Tryz.func63,Tryz.ntmps63);(go_wp2);(go_loopg [0] k (fun kq v0 w'=>∃ (x0_1:List Int),Aside0 (impl_trimmed.l0 kq x0_1=some r)∧Aside0 (kq≤k)∧Aside0 (Kd.V (Kd.int .i64) 3 w' w.heap.size (fun k_=>(P0_ k_ ∨ w.heap.size≤k_)) v0 x0_1)∧Aside0 (Below w.heap.size w w')));case atStart=>exact ⟨(l0),H',⟨Nat.le_refl _⟩,⟨by apply_rules only [HO0.out,Kd.V_alloc,Kd.V_drewN,Kd.V_drew]⟩,⟨by apply_rules only [HB.out,zc,zd,zb]⟩⟩
 case round =>
  clear H';obtain ⟨x0_1,HA,HK1,HO_0,HB⟩:=hrel
  cases gk with
 |zero=>exact absurd HA.out (by simp [impl_trimmed.l0])
 |succ k1 =>
   have H:=HA.out;clear HA;simp only [impl_trimmed.l0] at H;by_cases c2:(x0_1.length:Int) > 0
   ·
    rw [if_pos c2] at H;have c2b0:decide (0 < (x0_1.length:Int))=true:=decide_eq_true c2;have c2b1:decide (0 < x0_1.length)=true:=decide_eq_true (by omega);clear c2;obtain ⟨ji3,hji3⟩:∃ j_:Int,(wrap64 ((x0_1.length:Int) - 1))=j_:=⟨_,rfl⟩;(replace H:(if 0≤(ji3) then (if (ji3) < (x0_1.length:Int) then (if (rd x0_1 (ji3))=0 then (if (ji3)≤(x0_1.length:Int) then (impl_trimmed.l0 k1 (x0_1.take ((ji3):Int).toNat)) else (none)) else (some x0_1)) else (none)) else (none))=some r:=by first|(rw [hji3] at H;exact H)|(simp only [hji3] at H ⊢;exact H));have hji3w:(IntKind.i64.wrap ((x0_1.length:Int) - 1))=ji3:=(i64_w _).trans hji3;by_cases c4:0≤(ji3)
    ·
     rw [if_pos c4] at H;have c4b0:decide (0≤(ji3))=true:=decide_eq_true c4;clear c4;by_cases c5:(ji3) < (x0_1.length:Int)
     ·
      rw [if_pos c5] at H;have c5b0:decide ((ji3) < (x0_1.length:Int))=true:=decide_eq_true c5;clear c5;by_cases c6:(rd x0_1 (ji3))=0
      ·
       rw [if_pos c6] at H;have c6b0:((rd x0_1 (ji3)) == 0)=true:=beq_iff_eq.mpr c6;have c6b1:((rd x0_1 (ji3)) != 0)=false:=bne_eq_false_iff_eq.mpr c6;clear c6;have c7b0:=eq_true (of_decide_eq_true ‹_›:0≤(ji3));by_cases c8:(ji3)≤(x0_1.length:Int)
       · rw [if_pos c8] at H;have c8b0:=eq_true c8;have c8b1:decide ((ji3)≤(x0_1.length:Int))=true:=decide_eq_true c8;clear c8;obtain ⟨y102,hy102⟩:∃ y_:List Int,y_=(x0_1.take ((ji3):Int).toNat):=⟨_,rfl⟩;(replace H:(impl_trimmed.l0 k1 y102)=some r:=by first|(rw [hy102];with_reducible exact H)|(have H2_:=(Option.bind_some _ _).symm.trans H;rw [hy102];with_reducible exact H2_)|(have H2_:=(Option.bind_some _ _).symm.trans H;with_reducible exact H2_)|with_reducible exact H|(rw [hy102];exact H)|exact H);have Ny102:=za hy102;clear hy102;have H':=za H;clear H;obtain ⟨Ao9,co9,eo9⟩:=Kd.V_slice HO_0.out;subst eo9;have p101:0≤((ji3):Int):=of_decide_eq_true ‹_›;have q101:(ji3) < (x0_1.length:Int):=of_decide_eq_true ‹_›;obtain ⟨ad101,e101,hx101_0⟩:=zx (Kd.V_reads' HO_0.out).2.2 (ji3) p101 q101;cases e101;replace p101:=eq_true p101;replace q101:=eq_true q101;have q10:((ji3):Int)≤((x0_1.length:Int):Int):=of_decide_eq_true ‹_›;obtain ⟨i010,hi010,_,hsz10,_⟩:=info_parts info3;have hroom10:x0_1.length≤co9:=(Kd.V_reads' HO_0.out).2.1;have hC10:Kd.F (Kd.int .i64) _ _ (some ad101) x0_1.length x0_1:=(Kd.V_at (base:=w.heap.size) HO_0.out).2.2;have hcut10:=cut_to (P:=Tryz.prog) 24 3 .i64 Tryz.underlying24 hi010 (some ad101) x0_1.length co9 (ji3) (of_decide_eq_true ‹_›) q10 hroom10;have hr10:=Kd.F_take (m:=((ji3):Int).toNat) hC10 (by omega);have hy10:y102.length=((ji3):Int).toNat:=(by rw [Ny102.out,List.length_take];omega);rw [← Ny102.out] at hr10;rw [← hy10] at hcut10;have HO106:=za (show Kd.V (Kd.int .i64) 3 _ w.heap.size _ (.slice (some ad101) y102.length co9) y102 from Kd.V_mk (by omega) hr10);have HC106:=za (show y102.length≤co9 from by omega);clear hr10 hC10 hroom10 hi010 hsz10;have KY10:=za hy10;clear hy10;replace q10:=eq_true q10;(go_wp2);(go_roundg k1);(case measure=>have:=HK1.out;omega);case rel=>exact ⟨(y102),H',⟨by have:=HK1.out;omega⟩,⟨by apply_rules only [HO106.out,Kd.V_alloc,Kd.V_drewN,Kd.V_drew]⟩,⟨by apply_rules only [HB.out,zc,zd,zb]⟩⟩
       · rw [if_neg c8] at H;exact absurd H (by simp)
      · rw [if_neg c6] at H;have c6b0:((rd x0_1 (ji3)) == 0)=false:=beq_eq_false_iff_ne.mpr c6;have c6b1:((rd x0_1 (ji3)) != 0)=true:=bne_iff_ne.mpr c6;obtain rfl:=Option.some.inj H;obtain ⟨Ao11,co11,eo11⟩:=Kd.V_slice HO_0.out;subst eo11;have p101:0≤((ji3):Int):=of_decide_eq_true ‹_›;have q101:(ji3) < (x0_1.length:Int):=of_decide_eq_true ‹_›;obtain ⟨ad101,e101,hx101_0⟩:=zx (Kd.V_reads' HO_0.out).2.2 (ji3) p101 q101;cases e101;replace p101:=eq_true p101;replace q101:=eq_true q101;(go_wp2);(go_ret);exact ⟨_,by first|rfl|(simp [errW_none,errW_some] <;> rfl)|(simp only [← hji3];first|rfl|(simp [errW_none,errW_some] <;> rfl))|(simp [*,errW_none,errW_some] <;> rfl),by apply_rules only [HO_0.out,Kd.V_alloc,Kd.V_drewN,Kd.V_drew],by apply_rules only [HB.out,zc,zd,zb]⟩
     · rw [if_neg c5] at H;exact absurd H (by simp)
    · rw [if_neg c4] at H;exact absurd H (by simp)
   · rw [if_neg c2] at H;have c2b0:decide (0 < (x0_1.length:Int))=false:=decide_eq_false c2;have c2b1:decide (0 < x0_1.length)=false:=decide_eq_false (by omega);clear c2;obtain rfl:=Option.some.inj H;obtain ⟨Ao12,co12,eo12⟩:=Kd.V_slice HO_0.out;subst eo12;(go_wp2);(go_ret);exact ⟨_,by first|rfl|simp [*,errW_none,errW_some] <;> rfl,by (with_reducible repeat (first|apply Kd.V_alloc|apply Kd.V_drewN|apply Kd.V_drew));exact HO_0.out,by repeat (first|(with_reducible first|exact HB.out|apply zc|apply zd|apply zb)|exact HB.out)⟩
def impl_Board_most.f (k:Nat) (a0_0:Int) (a0_1:Int) (l0_2:List Int):Option (Int):=(impl_Board_numbers.f a0_0 a0_1 l0_2).bind fun t102=>((impl_trimmed.f k t102).bind fun t105=>(some (wrap64 ((t105.length:Int) - 1))))
set_option maxHeartbeats 8000000 in
set_option maxRecDepth 100000 in
theorem impl_Board_most.calls (k:Nat) (a0_0:Int) (a0_1:Int) (A0_2:Option Addr) (c0_2:Nat) (l0_2:List Int) (r:Int) (w:World) (hr0_2:Kd.C (Kd.int .i64) w A0_2 l0_2.length l0_2) (hc0_2:l0_2.length≤c0_2) (h:impl_Board_most.f k a0_0 a0_1 l0_2=some r) :
  Calls Tryz.prog 37 #[.agg #[.int .i64 a0_0,.int .i64 a0_1,.slice A0_2 l0_2.length c0_2]] w fun e w'=>e=.returned (.int .i64 r)∧Below w.heap.size w w':=by
 have hu26:=Tryz.underlying26;have HR0_2:=za hr0_2;have HC0_2:=za hc0_2;clear hr0_2 hc0_2;have HB:=za (Below.refl w.heap.size w);have H:((impl_Board_numbers.f a0_0 a0_1 l0_2).bind fun t102=>((impl_trimmed.f k t102).bind fun t105=>(some (wrap64 ((t105.length:Int) - 1)))))=some r:=h;clear h;obtain ⟨t102,A2,H⟩:=bindAside H;(try dsimp only at H);obtain ⟨t105,A3,H⟩:=bindAside H;(try dsimp only at H);obtain rfl:=Option.some.inj H;(go_enter Tryz.func37,Tryz.ntmps37);(go_wp2_with (first|((with_reducible refine zv (N:=1) rfl ?_);refine zw ?hg (N:=1) ?hd (cs:=#[.int .i64 a0_0,.int .i64 a0_1,.slice A0_2 l0_2.length c0_2]) (t:=26) ?hr ?_;(case hd=>rfl);(case hg=>rfl);(case hr=>first|(go_simp;done)|(go_simp;rfl));intro gb101 hg w4 hbox hb;have BK101:=za (hbox);have GW101:=za ((by rw [hg];exact (zi (by apply_rules only [HB.out,zc,zd,zb])):w.heap.size≤gb101));have GE101:=za ((by rw [hg];exact (zi (by apply_rules only [HB.out,zc,zd,zb])):w.heap.size≤gb101));replace HB:=za (zl (by apply_rules only [HB.out,zc,zd,zb]) hb);clear hb hbox hg;have hcz5_0:w4.cell? ⟨gb101,0,none⟩=some (.int .i64 a0_0):=(ze BK101.out 0).trans rfl;have hcz5_1:w4.cell? ⟨gb101,1,none⟩=some (.int .i64 a0_1):=(ze BK101.out 1).trans rfl;have hcz5_2:w4.cell? ⟨gb101,2,none⟩=some (.slice A0_2 l0_2.length c0_2):=(ze BK101.out 2).trans rfl;have hfz5_0:=zf BK101.out 0;have hfz5_1:=zf BK101.out 1;have hfz5_2:=zf BK101.out 2)|((with_reducible refine zu (f:=64) rfl ?_);refine goesL_ (some 4) rfl rfl Tryz.func64 (by kernel_rfl) rfl #[.agg #[.int .i64 a0_0,.int .i64 a0_1,.slice A0_2 l0_2.length c0_2]] rfl (by first|rfl|simp only [z3_,z4_,z5_];try rfl) ?_;(with_reducible refine (impl_Board_numbers.calls a0_0 a0_1 _ _ l0_2 t102 _ ?side1 ?side2 A2.out).mono ?_);(case side1=>apply_rules only [zq HR0_2.out HB.out,zm,zn,zo]);(case side2=>exact HC0_2.out);rintro e w6 ⟨v103,rfl,ho0,hb⟩;refine ⟨_,rfl,?_⟩;have HO104:=za (Kd.R_lower ho0 (zi (by apply_rules only [HB.out,zc,zd,zb,zg,GE101.out])));replace BK101:=za (zp (g:=gb101) (o:=.cells #[.int .i64 a0_0,.int .i64 a0_1,.slice A0_2 l0_2.length c0_2] 26 (0,0)) (by apply_rules only [BK101.out,zj,zh,zk]) hb);replace HB:=za (zl (by apply_rules only [HB.out,zc,zd,zb,zg,GE101.out]) hb);obtain ⟨Ao7,co7,eo7⟩:=Kd.R_slice HO104.out;subst eo7)|((with_reducible refine zu (f:=63) rfl ?_);refine goesL_ (some 5) rfl rfl Tryz.func63 (by kernel_rfl) rfl #[.slice Ao7 t102.length co7] rfl (by first|rfl|simp only [z3_,z4_,z5_];try rfl) ?_;(with_reducible refine (impl_trimmed.calls k (fun k_=>some k_=(.slice Ao7 t102.length co7:Value).ownBlock) _ _ t102 t105 _ ?side1 A3.out).mono ?_);(case side1=>exact Kd.R_V (Kd.R_tight rfl (Kd.R_types (HO104.out) BK101.out (by decide))));rintro e w8 ⟨v106,rfl,ho0,hb⟩;refine ⟨_,rfl,?_⟩;have HO107:=za (Kd.V_lower (Kd.V_mono (ok':=fun k_=>k_ ≠ gb101) ho0 (fun k_ hk_=>Or.elim hk_ (fun hs_=>((Kd.R_types (HO104.out) BK101.out (by decide)).1 k_ hs_.symm).2) (fun hn_=>(Kd.freshB (g:=gb101) (o:=.cells #[.int .i64 a0_0,.int .i64 a0_1,.slice A0_2 l0_2.length c0_2] 26 (0,0)) (by apply_rules only [BK101.out,zj,zh,zk]) k_ hn_)))) (zi (by apply_rules only [HB.out,zc,zd,zb,zg,GE101.out])));replace HO104:=za (Kd.R_below (by apply_rules only [HO104.out,zs,zt,zr]) hb);replace BK101:=za (zp (g:=gb101) (o:=.cells #[.int .i64 a0_0,.int .i64 a0_1,.slice A0_2 l0_2.length c0_2] 26 (0,0)) (by apply_rules only [BK101.out,zj,zh,zk]) hb);replace HB:=za (zl (by apply_rules only [HB.out,zc,zd,zb,zg,GE101.out]) hb);obtain ⟨Ao9,co9,eo9⟩:=Kd.V_slice HO107.out;subst eo9)));(go_ret);exact ⟨by first|rfl|simp [*,errW_none,errW_some] <;> rfl,by repeat (first|(with_reducible first|exact HB.out|apply zc|apply zd|apply zb|refine zg ?_ GE101.out)|exact HB.out)⟩
end Go.Proofs.YtpjjeeabpaojnaaGreat.Q
end
section
namespace Go.Proofs.YtpjjeeabpaojnaaGreat.MostK
set_option linter.unusedVariables false
open Go.RowKit Go.Proofs.YtpjjeeabpaojnaaGreat.Q Go.Proofs.YtpjjeeabpaojnaaGreatW.PrintWords Go.Proofs.YtpjjeeabpaojnaaGreatW.PrintLast Go.Proofs.YtpjjeeabpaojnaaGreatW.PrintMore
open Go.Proofs.YtpjjeeabpaojnaaGreatL Go.Proofs.YtpjjeeabpaojnaaGreat.LawK Go.Proofs.YtpjjeeabpaojnaaGreat.BoardK Go.Proofs.YtpjjeeabpaojnaaGreat.LinesK Go.Proofs.YtpjjeeabpaojnaaGreat.Walk Go.Proofs.YtpjjeeabpaojnaaGreat.NumK
theorem nums_fold (m:Nat):∀ (vis:List (List Int)) (out:List Int) (f:Nat→Nat),out.length=m→(∀ n,n < m→out[n]?=some ((f n:Nat):Int))→(∀ p ∈ vis,rooksN p < m)→(∀ n,f n + vis.length≤4611686018427387904) →
  (vis.foldl (fun o p=>o.set ((rooksN p:Nat):Int).toNat (IntKind.i64.wrap (rdOf 0 o ((rooksN p:Nat):Int) + 1))) out).length=m∧∀ n,n < m→(vis.foldl (fun o p=>o.set ((rooksN p:Nat):Int).toNat (IntKind.i64.wrap (rdOf 0 o ((rooksN p:Nat):Int) + 1))) out)[n]?=some ((f n + vis.countP (fun p=>rooksN p == n):Nat):Int)
|[],out,f,h1,h2,_,_=>⟨h1,fun n hn=>by rw [List.foldl_nil,h2 n hn];simp⟩
|p :: t,out,f,h1,h2,h3,h4=>by
  have hp:=h3 p (by simp)
  have e:rdOf 0 out ((rooksN p:Nat):Int)=((f (rooksN p):Nat):Int):=by
   unfold rdOf
   rw [Int.toNat_natCast,List.getD_eq_getElem?_getD,h2 _ hp]
   rfl
  have h5:=h4 (rooksN p)
  rw [List.length_cons] at h5
  have ew:IntKind.i64.wrap (((f (rooksN p):Nat):Int) + 1)=((f (rooksN p) + 1:Nat):Int):=by rw [wrap_i64',w64 (by omega) (by omega)];rfl
  rw [List.foldl_cons,e,ew,Int.toNat_natCast]
  obtain ⟨g1,g2⟩:=nums_fold m t (out.set (rooksN p) ((f (rooksN p) + 1:Nat):Int)) (fun n=>f n + if rooksN p=n then 1 else 0) (by rw [List.length_set];exact h1) (fun n hn=>by
   rw [List.getElem?_set]
   by_cases c:rooksN p=n
   ·
    subst c
    rw [if_pos rfl,if_pos (by omega),if_pos rfl]
   ·
    rw [if_neg c,if_neg c,h2 n hn];rfl) (fun q hq=>h3 q (by simp [hq])) (fun n=>by
   have:=h4 n
   rw [List.length_cons] at this
   split <;> omega)
  refine ⟨g1,fun n hn=>?_⟩
  rw [g2 n hn,List.countP_cons]
  congr 2
  by_cases c:rooksN p=n
  ·
   rw [if_pos c,if_pos (by simpa using c)];omega
  ·
   rw [if_neg c,if_neg (by simpa using c)];omega
theorem nums_get {m:Nat} {vis:List (List Int)} (h3:∀ p ∈ vis,rooksN p < m) (h4:vis.length≤4611686018427387904):(numsF m vis).length=m∧∀ n,n < m→(numsF m vis)[n]?=some ((vis.countP (fun p=>rooksN p == n):Nat):Int):=by
 have h:=nums_fold m vis (List.replicate m 0) (fun _=>0) (by simp) (fun n hn=>by rw [List.getElem?_replicate,if_pos hn];rfl) h3 (fun n=>by omega)
 simp only [Nat.zero_add] at h
 exact h
theorem trimmed {j:Nat}:∀ (d:Nat) (xs:List Int),xs.length=j + 1 + d→xs.length≤1048576→(∀ (h:j < xs.length),xs[j] ≠ 0)→(∀ n (h:n < xs.length),j < n→xs[n]=0)→Ev (fun k=>impl_trimmed.l0 k xs) (xs.take (j + 1))
|0,xs,hl,h6,h1,h2=>by
  have w1:=Aside0.mk (show wrap64 ((xs.length:Int) - 1)=((j:Nat):Int) from by rw [w64 (by omega) (by omega)];omega)
  refine Ev.step (f:=fun _=>some xs) (fun k=>?_) (evEq (Ev.now _) (by rw [List.take_of_length_le (by omega)]))
  rw [impl_trimmed.l0,if_pos (by omega),w1.out,if_pos (by omega),if_pos (by omega),rd_lt _ _ (show j < xs.length by omega),if_neg (h1 (by omega))]
|d + 1,xs,hl,h6,h1,h2=>by
  have w1:=Aside0.mk (show wrap64 ((xs.length:Int) - 1)=((j + 1 + d:Nat):Int) from by rw [w64 (by omega) (by omega)];omega)
  have hlen:(xs.take (j + 1 + d)).length=j + 1 + d:=by rw [List.length_take];omega
  have ih:=trimmed d (xs.take (j + 1 + d)) hlen (by omega) (fun h=>by rw [List.getElem_take];exact h1 (by omega)) (fun n h hj=>by rw [List.getElem_take];exact h2 n (by omega) hj)
  rw [List.take_take,Nat.min_eq_left (by omega)] at ih
  refine Ev.step (fun k=>?_) ih
  rw [impl_trimmed.l0,if_pos (by omega),w1.out,if_pos (by omega),if_pos (by omega),rd_lt _ _ (show j + 1 + d < xs.length by omega),if_pos (h2 _ _ (by omega)),if_pos (by omega),Int.toNat_natCast]
theorem most {l:List Int} {R C:Nat} (hb:isBoardB R C l=true):Ev (fun k=>impl_Board_most.f k R C l) ((mostN l C R 0 0:Nat):Int):=by
 obtain ⟨R',C',e1,e2,hlR,h1R,hR,h1C,hC,hbits⟩:=board_of hb
 have e1:R'=R:=by omega
 have e2:C'=C:=by omega
 subst e1 e2
 obtain ⟨M,hM⟩:∃ M,M=mostN l C' R' 0 0:=⟨_,rfl⟩
 have hmr:=mostN_le l C' R' 0 0
 have hmc:=most_cols hlR hR hC hbits
 obtain ⟨m,hm⟩:∃ m,m=(min (R':Int) (C':Int) + 1).toNat:=⟨_,rfl⟩
 obtain ⟨vis,hvis⟩:∃ vis,vis=waysFrom l C' R' 0 0 []:=⟨_,rfl⟩
 have hlt:∀ p ∈ vis,rooksN p < m:=fun p hp=>by
  rw [hvis] at hp
  have:=ways_le hlR hR hC hbits p hp
  omega
 have hvl:vis.length≤4611686018427387904:=by
  have h1:=ways_len l C' R' 0 0 []
  rw [← hvis] at h1
  have h2:(C' + 1) ^ R'≤7 ^ 6:=Nat.le_trans (Nat.pow_le_pow_left (by omega) _) (Nat.pow_le_pow_right (by decide) hR)
  have h3:(7:Nat) ^ 6=117649:=by decide
  omega
 obtain ⟨hnl,hng⟩:=nums_get hlt hvl
 obtain ⟨hup,q,hq,hqe⟩:=ways_most l C' R' 0 0 []
 rw [← hvis] at hup hq
 have h0:rooksN []=0:=rfl
 unfold impl_Board_most.f
 refine Ev.congr (fun k=>by rw [impl_Board_numbers.f,if_pos hb,Option.bind_some,Int.toNat_natCast,hlR,← hm,← hvis]) ?_
 have hMm:M < m:=by omega
 have htr:=trimmed (j:=M) (m - (M + 1)) (numsF m vis) (by omega) (by omega) (fun h=>by
  have h2:=hng M hMm
  rw [List.getElem?_eq_getElem h] at h2
  rw [Option.some.inj h2]
  have:0 < vis.countP (fun p=>rooksN p == M):=List.countP_pos_iff.2 ⟨q,hq,by simp;omega⟩
  omega) (fun n h hj=>by
  have h2:=hng n (by omega)
  rw [List.getElem?_eq_getElem h] at h2
  rw [Option.some.inj h2]
  have:vis.countP (fun p=>rooksN p == n)=0:=by
   rw [List.countP_eq_zero]
   intro p hp
   have:=hup p hp
   simp
   omega
  omega)
 refine Ev.bind (show Ev (fun k=>impl_trimmed.f k (numsF m vis)) _ from htr) ?_
 refine evEq (Ev.now (wrap64 ((((numsF m vis).take (M + 1)).length:Int) - 1))) ?_
 rw [List.length_take,hnl,Nat.min_eq_left (by omega),w64 (by omega) (by omega),← hM]
 omega
end Go.Proofs.YtpjjeeabpaojnaaGreat.MostK
end
section
namespace Go.Proofs.YtpjjeeabpaojnaaGreat.Q
open Go.RowKit Go.Proofs.YtpjjeeabpaojnaaGreatW.PrintWords Go.Proofs.YtpjjeeabpaojnaaGreatW.PrintLast Go.Proofs.YtpjjeeabpaojnaaGreatW.PrintMore
attribute [local go_sem] max2_int min2_int max_two min_two max_three min_three max_four min_four   -- for this text's walks alone
set_option linter.unusedVariables false
set_option linter.unusedSimpArgs false
def spec_AllLargest.f (k:Nat) (a0_0:Int) (a0_1:Int) (l0_2:List Int):Option ((List (List Int)) × Bool):=(spec_boGood.f k a0_0 a0_1 l0_2).bind fun t102=>(if t102=true then ((spec_lcLargest.f k a0_0 a0_1 l0_2).bind fun t103=>(if (t103.length:Int) > 300 then (some (([]:List (List Int)),false)) else (some (t103,true)))) else (some (([]:List (List Int)),false)))
set_option maxHeartbeats 8000000 in
set_option maxRecDepth 100000 in
theorem spec_AllLargest.calls (k:Nat) (a0_0:Int) (a0_1:Int) (A0_2:Option Addr) (c0_2:Nat) (l0_2:List Int) (r1:List (List Int)) (r2:Bool) (w:World) (hr0_2:Kd.C (Kd.int .i64) w A0_2 l0_2.length l0_2) (hc0_2:l0_2.length≤c0_2) (h:spec_AllLargest.f k a0_0 a0_1 l0_2=some (r1,r2)) :
  Calls Tryz.prog 7 #[.agg #[.int .i64 a0_0,.int .i64 a0_1,.slice A0_2 l0_2.length c0_2]] w fun e w'=>∃ v0_:Value,e=.returned (.tuple #[v0_,.bool r2])∧Kd.N (Kd.slice 3 (Kd.int .i64)) 24 w' w.heap.size (fun k_=>(w.heap.size≤k_)) v0_ r1∧Below w.heap.size w w':=by
 have hu26:=Tryz.underlying26;have HR0_2:=za hr0_2;have HC0_2:=za hc0_2;clear hr0_2 hc0_2;have HB:=za (Below.refl w.heap.size w);have H:((spec_boGood.f k a0_0 a0_1 l0_2).bind fun t102=>(if t102=true then ((spec_lcLargest.f k a0_0 a0_1 l0_2).bind fun t103=>(if (t103.length:Int) > 300 then (some (([]:List (List Int)),false)) else (some (t103,true)))) else (some (([]:List (List Int)),false))))=some (r1,r2):=h;clear h;obtain ⟨t102,A2,H⟩:=bindAside H;(try dsimp only at H);by_cases c3:t102=true
 ·
  subst c3;(have H1:((spec_lcLargest.f k a0_0 a0_1 l0_2).bind fun t103=>(if (t103.length:Int) > 300 then (some (([]:List (List Int)),false)) else (some (t103,true))))=some (r1,r2):=by rw [if_pos rfl] at H;exact H);clear H;have H:=H1;clear H1;obtain ⟨t103,A4,H⟩:=bindAside H;(try dsimp only at H);by_cases c5:(t103.length:Int) > 300
  · rw [if_pos c5] at H;have c5b0:decide (300 < (t103.length:Int))=true:=decide_eq_true c5;have c5b1:decide (300 < t103.length)=true:=decide_eq_true (by omega);clear c5;simp only [Option.some.injEq,Prod.mk.injEq] at H;obtain ⟨rfl,rfl⟩:=H;(go_enter Tryz.func7,Tryz.ntmps7);(go_wp2_with (first|((with_reducible refine zv (N:=1) rfl ?_);refine zw ?hg (N:=1) ?hd (cs:=#[.int .i64 a0_0,.int .i64 a0_1,.slice A0_2 l0_2.length c0_2]) (t:=26) ?hr ?_;(case hd=>rfl);(case hg=>rfl);(case hr=>first|(go_simp;done)|(go_simp;rfl));intro gb101 hg w6 hbox hb;have BK101:=za (hbox);have GW101:=za ((by rw [hg];exact (zi (by apply_rules only [HB.out,zc,zd,zb])):w.heap.size≤gb101));have GE101:=za ((by rw [hg];exact (zi (by apply_rules only [HB.out,zc,zd,zb])):w.heap.size≤gb101));replace HB:=za (zl (by apply_rules only [HB.out,zc,zd,zb]) hb);clear hb hbox hg;have hcz7_0:w6.cell? ⟨gb101,0,none⟩=some (.int .i64 a0_0):=(ze BK101.out 0).trans rfl;have hcz7_1:w6.cell? ⟨gb101,1,none⟩=some (.int .i64 a0_1):=(ze BK101.out 1).trans rfl;have hcz7_2:w6.cell? ⟨gb101,2,none⟩=some (.slice A0_2 l0_2.length c0_2):=(ze BK101.out 2).trans rfl;have hfz7_0:=zf BK101.out 0;have hfz7_1:=zf BK101.out 1;have hfz7_2:=zf BK101.out 2)|((with_reducible refine zu (f:=26) rfl ?_);refine goesL_ (some 6) rfl rfl Tryz.func26 (by kernel_rfl) rfl #[.agg #[.int .i64 a0_0,.int .i64 a0_1,.slice A0_2 l0_2.length c0_2]] rfl (by first|rfl|simp only [z3_,z4_,z5_];try rfl) ?_;(with_reducible refine (spec_boGood.calls k a0_0 a0_1 _ _ l0_2 true _ ?side1 ?side2 A2.out).mono ?_);(case side1=>apply_rules only [zq HR0_2.out HB.out,zm,zn,zo]);(case side2=>exact HC0_2.out);rintro e w8 ⟨rfl,hb⟩;refine ⟨_,rfl,?_⟩;replace BK101:=za (zp (g:=gb101) (o:=.cells #[.int .i64 a0_0,.int .i64 a0_1,.slice A0_2 l0_2.length c0_2] 26 (0,0)) (by apply_rules only [BK101.out,zj,zh,zk]) hb);replace HB:=za (zl (by apply_rules only [HB.out,zc,zd,zb,zg,GE101.out]) hb);have hcz9_0:w8.cell? ⟨gb101,0,none⟩=some (.int .i64 a0_0):=(ze BK101.out 0).trans rfl;have hcz9_1:w8.cell? ⟨gb101,1,none⟩=some (.int .i64 a0_1):=(ze BK101.out 1).trans rfl;have hcz9_2:w8.cell? ⟨gb101,2,none⟩=some (.slice A0_2 l0_2.length c0_2):=(ze BK101.out 2).trans rfl;have hfz9_0:=zf BK101.out 0;have hfz9_1:=zf BK101.out 1;have hfz9_2:=zf BK101.out 2)|((with_reducible refine zu (f:=27) rfl ?_);refine goesL_ (some 9) rfl rfl Tryz.func27 (by kernel_rfl) rfl #[.agg #[.int .i64 a0_0,.int .i64 a0_1,.slice A0_2 l0_2.length c0_2]] rfl (by first|rfl|simp only [z3_,z4_,z5_];try rfl) ?_;(with_reducible refine (spec_lcLargest.calls k a0_0 a0_1 _ _ l0_2 t103 _ ?side1 ?side2 A4.out).mono ?_);(case side1=>apply_rules only [zq HR0_2.out HB.out,zm,zn,zo]);(case side2=>exact HC0_2.out);rintro e w10 ⟨v104,rfl,ho0,hb⟩;refine ⟨_,rfl,?_⟩;have HO105:=za (Kd.N_lower (Kd.N_mono (ok':=fun k_=>(w.heap.size≤k_)∧k_ ≠ gb101) ho0 (fun k_ hk_=>⟨(Nat.le_trans (zi (by apply_rules only [HB.out,zc,zd,zb,zg,GE101.out])) hk_),(Kd.freshB (g:=gb101) (o:=.cells #[.int .i64 a0_0,.int .i64 a0_1,.slice A0_2 l0_2.length c0_2] 26 (0,0)) (by apply_rules only [BK101.out,zj,zh,zk]) k_ hk_)⟩)) (zi (by apply_rules only [HB.out,zc,zd,zb,zg,GE101.out])));replace BK101:=za (zp (g:=gb101) (o:=.cells #[.int .i64 a0_0,.int .i64 a0_1,.slice A0_2 l0_2.length c0_2] 26 (0,0)) (by apply_rules only [BK101.out,zj,zh,zk]) hb);replace HB:=za (zl (by apply_rules only [HB.out,zc,zd,zb,zg,GE101.out]) hb);obtain ⟨Ao11,co11,eo11⟩:=Kd.N_slice HO105.out;subst eo11)));(go_ret2);exact ⟨_,by first|rfl|simp [*,errW_none,errW_some] <;> rfl,by first|exact Kd.S_nil _ _ _ _ _|exact Kd.N_nil _ _ _ _ _|exact Kd.V_nil _ _ _ _ _|exact Kd.Q_nil _ _ _ _ _|exact Kd.R_nil _ _ _ _ _,by repeat (first|(with_reducible first|exact HB.out|apply zc|apply zd|apply zb|refine zg ?_ GE101.out)|exact HB.out)⟩
  · rw [if_neg c5] at H;have c5b0:decide (300 < (t103.length:Int))=false:=decide_eq_false c5;have c5b1:decide (300 < t103.length)=false:=decide_eq_false (by omega);clear c5;simp only [Option.some.injEq,Prod.mk.injEq] at H;obtain ⟨rfl,rfl⟩:=H;(go_enter Tryz.func7,Tryz.ntmps7);(go_wp2_with (first|((with_reducible refine zv (N:=1) rfl ?_);refine zw ?hg (N:=1) ?hd (cs:=#[.int .i64 a0_0,.int .i64 a0_1,.slice A0_2 l0_2.length c0_2]) (t:=26) ?hr ?_;(case hd=>rfl);(case hg=>rfl);(case hr=>first|(go_simp;done)|(go_simp;rfl));intro gb101 hg w12 hbox hb;have BK101:=za (hbox);have GW101:=za ((by rw [hg];exact (zi (by apply_rules only [HB.out,zc,zd,zb])):w.heap.size≤gb101));have GE101:=za ((by rw [hg];exact (zi (by apply_rules only [HB.out,zc,zd,zb])):w.heap.size≤gb101));replace HB:=za (zl (by apply_rules only [HB.out,zc,zd,zb]) hb);clear hb hbox hg;have hcz13_0:w12.cell? ⟨gb101,0,none⟩=some (.int .i64 a0_0):=(ze BK101.out 0).trans rfl;have hcz13_1:w12.cell? ⟨gb101,1,none⟩=some (.int .i64 a0_1):=(ze BK101.out 1).trans rfl;have hcz13_2:w12.cell? ⟨gb101,2,none⟩=some (.slice A0_2 l0_2.length c0_2):=(ze BK101.out 2).trans rfl;have hfz13_0:=zf BK101.out 0;have hfz13_1:=zf BK101.out 1;have hfz13_2:=zf BK101.out 2)|((with_reducible refine zu (f:=26) rfl ?_);refine goesL_ (some 6) rfl rfl Tryz.func26 (by kernel_rfl) rfl #[.agg #[.int .i64 a0_0,.int .i64 a0_1,.slice A0_2 l0_2.length c0_2]] rfl (by first|rfl|simp only [z3_,z4_,z5_];try rfl) ?_;(with_reducible refine (spec_boGood.calls k a0_0 a0_1 _ _ l0_2 true _ ?side1 ?side2 A2.out).mono ?_);(case side1=>apply_rules only [zq HR0_2.out HB.out,zm,zn,zo]);(case side2=>exact HC0_2.out);rintro e w14 ⟨rfl,hb⟩;refine ⟨_,rfl,?_⟩;replace BK101:=za (zp (g:=gb101) (o:=.cells #[.int .i64 a0_0,.int .i64 a0_1,.slice A0_2 l0_2.length c0_2] 26 (0,0)) (by apply_rules only [BK101.out,zj,zh,zk]) hb);replace HB:=za (zl (by apply_rules only [HB.out,zc,zd,zb,zg,GE101.out]) hb);have hcz15_0:w14.cell? ⟨gb101,0,none⟩=some (.int .i64 a0_0):=(ze BK101.out 0).trans rfl;have hcz15_1:w14.cell? ⟨gb101,1,none⟩=some (.int .i64 a0_1):=(ze BK101.out 1).trans rfl;have hcz15_2:w14.cell? ⟨gb101,2,none⟩=some (.slice A0_2 l0_2.length c0_2):=(ze BK101.out 2).trans rfl;have hfz15_0:=zf BK101.out 0;have hfz15_1:=zf BK101.out 1;have hfz15_2:=zf BK101.out 2)|((with_reducible refine zu (f:=27) rfl ?_);refine goesL_ (some 9) rfl rfl Tryz.func27 (by kernel_rfl) rfl #[.agg #[.int .i64 a0_0,.int .i64 a0_1,.slice A0_2 l0_2.length c0_2]] rfl (by first|rfl|simp only [z3_,z4_,z5_];try rfl) ?_;(with_reducible refine (spec_lcLargest.calls k a0_0 a0_1 _ _ l0_2 t103 _ ?side1 ?side2 A4.out).mono ?_);(case side1=>apply_rules only [zq HR0_2.out HB.out,zm,zn,zo]);(case side2=>exact HC0_2.out);rintro e w16 ⟨v104,rfl,ho0,hb⟩;refine ⟨_,rfl,?_⟩;have HO105:=za (Kd.N_lower (Kd.N_mono (ok':=fun k_=>(w.heap.size≤k_)∧k_ ≠ gb101) ho0 (fun k_ hk_=>⟨(Nat.le_trans (zi (by apply_rules only [HB.out,zc,zd,zb,zg,GE101.out])) hk_),(Kd.freshB (g:=gb101) (o:=.cells #[.int .i64 a0_0,.int .i64 a0_1,.slice A0_2 l0_2.length c0_2] 26 (0,0)) (by apply_rules only [BK101.out,zj,zh,zk]) k_ hk_)⟩)) (zi (by apply_rules only [HB.out,zc,zd,zb,zg,GE101.out])));replace BK101:=za (zp (g:=gb101) (o:=.cells #[.int .i64 a0_0,.int .i64 a0_1,.slice A0_2 l0_2.length c0_2] 26 (0,0)) (by apply_rules only [BK101.out,zj,zh,zk]) hb);replace HB:=za (zl (by apply_rules only [HB.out,zc,zd,zb,zg,GE101.out]) hb);obtain ⟨Ao17,co17,eo17⟩:=Kd.N_slice HO105.out;subst eo17)));(go_ret2);exact ⟨_,by first|rfl|simp [*,errW_none,errW_some] <;> rfl,by (with_reducible repeat (first|apply zz|apply zA|apply zy));exact Kd.N_mono HO105.out (fun _ hk=>hk.1),by repeat (first|(with_reducible first|exact HB.out|apply zc|apply zd|apply zb|refine zg ?_ GE101.out)|exact HB.out)⟩
 · replace c3:=Bool.eq_false_iff.mpr c3;subst c3;(have H1:(some (([]:List (List Int)),false))=some (r1,r2):=by rw [if_neg (show ¬ (false=true) by decide)] at H;exact H);clear H;have H:=H1;clear H1;simp only [Option.some.injEq,Prod.mk.injEq] at H;obtain ⟨rfl,rfl⟩:=H;(go_enter Tryz.func7,Tryz.ntmps7);(go_wp2_with (first|((with_reducible refine zv (N:=1) rfl ?_);refine zw ?hg (N:=1) ?hd (cs:=#[.int .i64 a0_0,.int .i64 a0_1,.slice A0_2 l0_2.length c0_2]) (t:=26) ?hr ?_;(case hd=>rfl);(case hg=>rfl);(case hr=>first|(go_simp;done)|(go_simp;rfl));intro gb101 hg w18 hbox hb;have BK101:=za (hbox);have GW101:=za ((by rw [hg];exact (zi (by apply_rules only [HB.out,zc,zd,zb])):w.heap.size≤gb101));have GE101:=za ((by rw [hg];exact (zi (by apply_rules only [HB.out,zc,zd,zb])):w.heap.size≤gb101));replace HB:=za (zl (by apply_rules only [HB.out,zc,zd,zb]) hb);clear hb hbox hg;have hcz19_0:w18.cell? ⟨gb101,0,none⟩=some (.int .i64 a0_0):=(ze BK101.out 0).trans rfl;have hcz19_1:w18.cell? ⟨gb101,1,none⟩=some (.int .i64 a0_1):=(ze BK101.out 1).trans rfl;have hcz19_2:w18.cell? ⟨gb101,2,none⟩=some (.slice A0_2 l0_2.length c0_2):=(ze BK101.out 2).trans rfl;have hfz19_0:=zf BK101.out 0;have hfz19_1:=zf BK101.out 1;have hfz19_2:=zf BK101.out 2)|((with_reducible refine zu (f:=26) rfl ?_);refine goesL_ (some 6) rfl rfl Tryz.func26 (by kernel_rfl) rfl #[.agg #[.int .i64 a0_0,.int .i64 a0_1,.slice A0_2 l0_2.length c0_2]] rfl (by first|rfl|simp only [z3_,z4_,z5_];try rfl) ?_;(with_reducible refine (spec_boGood.calls k a0_0 a0_1 _ _ l0_2 false _ ?side1 ?side2 A2.out).mono ?_);(case side1=>apply_rules only [zq HR0_2.out HB.out,zm,zn,zo]);(case side2=>exact HC0_2.out);rintro e w20 ⟨rfl,hb⟩;refine ⟨_,rfl,?_⟩;replace BK101:=za (zp (g:=gb101) (o:=.cells #[.int .i64 a0_0,.int .i64 a0_1,.slice A0_2 l0_2.length c0_2] 26 (0,0)) (by apply_rules only [BK101.out,zj,zh,zk]) hb);replace HB:=za (zl (by apply_rules only [HB.out,zc,zd,zb,zg,GE101.out]) hb))));(go_ret2);exact ⟨_,by first|rfl|simp [*,errW_none,errW_some] <;> rfl,by first|exact Kd.S_nil _ _ _ _ _|exact Kd.N_nil _ _ _ _ _|exact Kd.V_nil _ _ _ _ _|exact Kd.Q_nil _ _ _ _ _|exact Kd.R_nil _ _ _ _ _,by repeat (first|(with_reducible first|exact HB.out|apply zc|apply zd|apply zb|refine zg ?_ GE101.out)|exact HB.out)⟩
def spec_LargestPlacement.f (k:Nat) (a0_0:Int) (a0_1:Int) (l0_2:List Int):Option (List Int × Bool):=(spec_boGood.f k a0_0 a0_1 l0_2).bind fun t102=>(if t102=true then ((spec_lcLargest.f k a0_0 a0_1 l0_2).bind fun t103=>(if 0 < (t103.length:Int) then (some (rd_L2 t103 0,true)) else (none))) else (some (([]:List Int),false)))
set_option maxHeartbeats 8000000 in
set_option maxRecDepth 100000 in
theorem spec_LargestPlacement.calls (k:Nat) (a0_0:Int) (a0_1:Int) (A0_2:Option Addr) (c0_2:Nat) (l0_2:List Int) (r1:List Int) (r2:Bool) (w:World) (hr0_2:Kd.C (Kd.int .i64) w A0_2 l0_2.length l0_2) (hc0_2:l0_2.length≤c0_2) (h:spec_LargestPlacement.f k a0_0 a0_1 l0_2=some (r1,r2)) :
  Calls Tryz.prog 9 #[.agg #[.int .i64 a0_0,.int .i64 a0_1,.slice A0_2 l0_2.length c0_2]] w fun e w'=>∃ v0_:Value,e=.returned (.tuple #[v0_,.bool r2])∧Kd.V (Kd.int .i64) 3 w' w.heap.size (fun k_=>(w.heap.size≤k_)) v0_ r1∧Below w.heap.size w w':=by
 have hu26:=Tryz.underlying26;have HR0_2:=za hr0_2;have HC0_2:=za hc0_2;clear hr0_2 hc0_2;have HB:=za (Below.refl w.heap.size w);have H:((spec_boGood.f k a0_0 a0_1 l0_2).bind fun t102=>(if t102=true then ((spec_lcLargest.f k a0_0 a0_1 l0_2).bind fun t103=>(if 0 < (t103.length:Int) then (some (rd_L2 t103 0,true)) else (none))) else (some (([]:List Int),false))))=some (r1,r2):=h;clear h;obtain ⟨t102,A2,H⟩:=bindAside H;(try dsimp only at H);by_cases c3:t102=true
 ·
  subst c3;(have H1:((spec_lcLargest.f k a0_0 a0_1 l0_2).bind fun t103=>(if 0 < (t103.length:Int) then (some (rd_L2 t103 0,true)) else (none)))=some (r1,r2):=by rw [if_pos rfl] at H;exact H);clear H;have H:=H1;clear H1;obtain ⟨t103,A4,H⟩:=bindAside H;(try dsimp only at H);by_cases c5:0 < (t103.length:Int)
  · rw [if_pos c5] at H;have c5b0:decide (0 < (t103.length:Int))=true:=decide_eq_true c5;have c5b1:decide (0 < t103.length)=true:=decide_eq_true (by omega);clear c5;simp only [Option.some.injEq,Prod.mk.injEq] at H;obtain ⟨rfl,rfl⟩:=H;(go_enter Tryz.func9,Tryz.ntmps9);(go_wp2_with (first|((with_reducible refine zv (N:=1) rfl ?_);refine zw ?hg (N:=1) ?hd (cs:=#[.int .i64 a0_0,.int .i64 a0_1,.slice A0_2 l0_2.length c0_2]) (t:=26) ?hr ?_;(case hd=>rfl);(case hg=>rfl);(case hr=>first|(go_simp;done)|(go_simp;rfl));intro gb101 hg w6 hbox hb;have BK101:=za (hbox);have GW101:=za ((by rw [hg];exact (zi (by apply_rules only [HB.out,zc,zd,zb])):w.heap.size≤gb101));have GE101:=za ((by rw [hg];exact (zi (by apply_rules only [HB.out,zc,zd,zb])):w.heap.size≤gb101));replace HB:=za (zl (by apply_rules only [HB.out,zc,zd,zb]) hb);clear hb hbox hg;have hcz7_0:w6.cell? ⟨gb101,0,none⟩=some (.int .i64 a0_0):=(ze BK101.out 0).trans rfl;have hcz7_1:w6.cell? ⟨gb101,1,none⟩=some (.int .i64 a0_1):=(ze BK101.out 1).trans rfl;have hcz7_2:w6.cell? ⟨gb101,2,none⟩=some (.slice A0_2 l0_2.length c0_2):=(ze BK101.out 2).trans rfl;have hfz7_0:=zf BK101.out 0;have hfz7_1:=zf BK101.out 1;have hfz7_2:=zf BK101.out 2)|((with_reducible refine zu (f:=26) rfl ?_);refine goesL_ (some 5) rfl rfl Tryz.func26 (by kernel_rfl) rfl #[.agg #[.int .i64 a0_0,.int .i64 a0_1,.slice A0_2 l0_2.length c0_2]] rfl (by first|rfl|simp only [z3_,z4_,z5_];try rfl) ?_;(with_reducible refine (spec_boGood.calls k a0_0 a0_1 _ _ l0_2 true _ ?side1 ?side2 A2.out).mono ?_);(case side1=>apply_rules only [zq HR0_2.out HB.out,zm,zn,zo]);(case side2=>exact HC0_2.out);rintro e w8 ⟨rfl,hb⟩;refine ⟨_,rfl,?_⟩;replace BK101:=za (zp (g:=gb101) (o:=.cells #[.int .i64 a0_0,.int .i64 a0_1,.slice A0_2 l0_2.length c0_2] 26 (0,0)) (by apply_rules only [BK101.out,zj,zh,zk]) hb);replace HB:=za (zl (by apply_rules only [HB.out,zc,zd,zb,zg,GE101.out]) hb);have hcz9_0:w8.cell? ⟨gb101,0,none⟩=some (.int .i64 a0_0):=(ze BK101.out 0).trans rfl;have hcz9_1:w8.cell? ⟨gb101,1,none⟩=some (.int .i64 a0_1):=(ze BK101.out 1).trans rfl;have hcz9_2:w8.cell? ⟨gb101,2,none⟩=some (.slice A0_2 l0_2.length c0_2):=(ze BK101.out 2).trans rfl;have hfz9_0:=zf BK101.out 0;have hfz9_1:=zf BK101.out 1;have hfz9_2:=zf BK101.out 2)|((with_reducible refine zu (f:=27) rfl ?_);refine goesL_ (some 8) rfl rfl Tryz.func27 (by kernel_rfl) rfl #[.agg #[.int .i64 a0_0,.int .i64 a0_1,.slice A0_2 l0_2.length c0_2]] rfl (by first|rfl|simp only [z3_,z4_,z5_];try rfl) ?_;(with_reducible refine (spec_lcLargest.calls k a0_0 a0_1 _ _ l0_2 t103 _ ?side1 ?side2 A4.out).mono ?_);(case side1=>apply_rules only [zq HR0_2.out HB.out,zm,zn,zo]);(case side2=>exact HC0_2.out);rintro e w10 ⟨v104,rfl,ho0,hb⟩;refine ⟨_,rfl,?_⟩;have HO105:=za (Kd.N_lower (Kd.N_mono (ok':=fun k_=>(w.heap.size≤k_)∧k_ ≠ gb101) ho0 (fun k_ hk_=>⟨(Nat.le_trans (zi (by apply_rules only [HB.out,zc,zd,zb,zg,GE101.out])) hk_),(Kd.freshB (g:=gb101) (o:=.cells #[.int .i64 a0_0,.int .i64 a0_1,.slice A0_2 l0_2.length c0_2] 26 (0,0)) (by apply_rules only [BK101.out,zj,zh,zk]) k_ hk_)⟩)) (zi (by apply_rules only [HB.out,zc,zd,zb,zg,GE101.out])));replace BK101:=za (zp (g:=gb101) (o:=.cells #[.int .i64 a0_0,.int .i64 a0_1,.slice A0_2 l0_2.length c0_2] 26 (0,0)) (by apply_rules only [BK101.out,zj,zh,zk]) hb);replace HB:=za (zl (by apply_rules only [HB.out,zc,zd,zb,zg,GE101.out]) hb);obtain ⟨Ao11,co11,eo11⟩:=Kd.N_slice HO105.out;subst eo11;have p106:0≤(0:Int):=(by omega);have q106:0 < (t103.length:Int):=of_decide_eq_true ‹_›;obtain ⟨ad106,A106_0,c106_0,e106,hx106_0,hl106_0,hi106_0⟩:=at_L2 (Kd.N_reads' HO105.out).2.2 0 p106 q106;cases e106;obtain ⟨ce106,hce106,hMe106,hcc106⟩:=Kd.N_get HO105.out [] 0 p106 (by first|exact q106|exact of_decide_eq_true ‹_›|(have e_:=(Kd.N_reads' HO105.out).1;omega));obtain ⟨ua106_0,uc106_0,rfl,ul106_0,ge106_0⟩:=Kd.FK_slice_open hMe106;have hv106_0:=hcc106 0 _ rfl;rw [Nat.add_zero,show ((Kd.slice 3 (Kd.int .i64))).sz=1 from rfl,Nat.mul_one] at hv106_0;replace hv106_0:=Option.some.inj (hv106_0.symm.trans hx106_0);injection hv106_0 with hva_ hvn_ hvc_;rw [hva_] at ge106_0;rw [hvc_] at ul106_0;have HL106_0:=za (show Kd.V (Kd.int .i64) 3 _ w.heap.size _ _ (rd_L2 t103 0) from Kd.V_mk ul106_0 ge106_0);clear hva_ hvn_ hvc_ ge106_0 ul106_0;clear hcc106 hce106;have qi106:(0 < t103.length)=True:=eq_true (by omega);(try rw [show ((0:Int)).toNat=0 from rfl] at hx106_0);(try rw [Addr.add_zero'] at hx106_0);have HR106_0:=za hi106_0;have HC106_0:=za hl106_0;clear hi106_0 hl106_0;replace p106:=eq_true p106;replace q106:=eq_true q106)));(go_ret2);exact ⟨_,by first|rfl|simp [*,errW_none,errW_some] <;> rfl,by (with_reducible repeat (first|apply Kd.V_alloc|apply Kd.V_drewN|apply Kd.V_drew));exact Kd.V_mono HL106_0.out (fun _ hk=>hk.1.1),by repeat (first|(with_reducible first|exact HB.out|apply zc|apply zd|apply zb|refine zg ?_ GE101.out)|exact HB.out)⟩
  · rw [if_neg c5] at H;exact absurd H (by simp)
 · replace c3:=Bool.eq_false_iff.mpr c3;subst c3;(have H1:(some (([]:List Int),false))=some (r1,r2):=by rw [if_neg (show ¬ (false=true) by decide)] at H;exact H);clear H;have H:=H1;clear H1;simp only [Option.some.injEq,Prod.mk.injEq] at H;obtain ⟨rfl,rfl⟩:=H;(go_enter Tryz.func9,Tryz.ntmps9);(go_wp2_with (first|((with_reducible refine zv (N:=1) rfl ?_);refine zw ?hg (N:=1) ?hd (cs:=#[.int .i64 a0_0,.int .i64 a0_1,.slice A0_2 l0_2.length c0_2]) (t:=26) ?hr ?_;(case hd=>rfl);(case hg=>rfl);(case hr=>first|(go_simp;done)|(go_simp;rfl));intro gb101 hg w12 hbox hb;have BK101:=za (hbox);have GW101:=za ((by rw [hg];exact (zi (by apply_rules only [HB.out,zc,zd,zb])):w.heap.size≤gb101));have GE101:=za ((by rw [hg];exact (zi (by apply_rules only [HB.out,zc,zd,zb])):w.heap.size≤gb101));replace HB:=za (zl (by apply_rules only [HB.out,zc,zd,zb]) hb);clear hb hbox hg;have hcz13_0:w12.cell? ⟨gb101,0,none⟩=some (.int .i64 a0_0):=(ze BK101.out 0).trans rfl;have hcz13_1:w12.cell? ⟨gb101,1,none⟩=some (.int .i64 a0_1):=(ze BK101.out 1).trans rfl;have hcz13_2:w12.cell? ⟨gb101,2,none⟩=some (.slice A0_2 l0_2.length c0_2):=(ze BK101.out 2).trans rfl;have hfz13_0:=zf BK101.out 0;have hfz13_1:=zf BK101.out 1;have hfz13_2:=zf BK101.out 2)|((with_reducible refine zu (f:=26) rfl ?_);refine goesL_ (some 5) rfl rfl Tryz.func26 (by kernel_rfl) rfl #[.agg #[.int .i64 a0_0,.int .i64 a0_1,.slice A0_2 l0_2.length c0_2]] rfl (by first|rfl|simp only [z3_,z4_,z5_];try rfl) ?_;(with_reducible refine (spec_boGood.calls k a0_0 a0_1 _ _ l0_2 false _ ?side1 ?side2 A2.out).mono ?_);(case side1=>apply_rules only [zq HR0_2.out HB.out,zm,zn,zo]);(case side2=>exact HC0_2.out);rintro e w14 ⟨rfl,hb⟩;refine ⟨_,rfl,?_⟩;replace BK101:=za (zp (g:=gb101) (o:=.cells #[.int .i64 a0_0,.int .i64 a0_1,.slice A0_2 l0_2.length c0_2] 26 (0,0)) (by apply_rules only [BK101.out,zj,zh,zk]) hb);replace HB:=za (zl (by apply_rules only [HB.out,zc,zd,zb,zg,GE101.out]) hb))));(go_ret2);exact ⟨.slice none 0 0,by first|rfl|simp [*,errW_none,errW_some] <;> rfl,Kd.V_nil _ _ _ _ _,by apply_rules only [HB.out,zc,zd,zb,zg,GE101.out]⟩
def spec_LeastCover.f (k:Nat) (a0_0:Int) (a0_1:Int) (l0_2:List Int):Option (List Int × List Int × Bool):=(spec_boGood.f k a0_0 a0_1 l0_2).bind fun t103=>(if t103=true then ((spec_lcCovers.f k a0_0 a0_1 l0_2).bind fun t104=>(if 0 < (t104.length:Int) then (some ((rd_T37 t104 0).f0,(rd_T37 t104 0).f1,true)) else (none))) else (some (([]:List Int),([]:List Int),false)))
set_option maxHeartbeats 8000000 in
set_option maxRecDepth 100000 in
theorem spec_LeastCover.calls (k:Nat) (a0_0:Int) (a0_1:Int) (A0_2:Option Addr) (c0_2:Nat) (l0_2:List Int) (r1:List Int) (r2:List Int) (r3:Bool) (w:World) (hr0_2:Kd.C (Kd.int .i64) w A0_2 l0_2.length l0_2) (hc0_2:l0_2.length≤c0_2) (h:spec_LeastCover.f k a0_0 a0_1 l0_2=some (r1,r2,r3)) :
  Calls Tryz.prog 13 #[.agg #[.int .i64 a0_0,.int .i64 a0_1,.slice A0_2 l0_2.length c0_2]] w fun e w'=>∃ v0_ v1_:Value,e=.returned (.tuple #[.agg #[v0_,v1_],.bool r3])∧Kd.V (Kd.int .i64) 3 w' w.heap.size (fun k_=>(w.heap.size≤k_)) v0_ r1∧Kd.V (Kd.int .i64) 3 w' w.heap.size (fun k_=>(w.heap.size≤k_)) v1_ r2∧Below w.heap.size w w':=by
 have hu26:=Tryz.underlying26;have hu37:=Tryz.underlying37;have HR0_2:=za hr0_2;have HC0_2:=za hc0_2;clear hr0_2 hc0_2;have HB:=za (Below.refl w.heap.size w);have H:((spec_boGood.f k a0_0 a0_1 l0_2).bind fun t103=>(if t103=true then ((spec_lcCovers.f k a0_0 a0_1 l0_2).bind fun t104=>(if 0 < (t104.length:Int) then (some ((rd_T37 t104 0).f0,(rd_T37 t104 0).f1,true)) else (none))) else (some (([]:List Int),([]:List Int),false))))=some (r1,r2,r3):=h;clear h;obtain ⟨t103,A2,H⟩:=bindAside H;(try dsimp only at H);by_cases c3:t103=true
 ·
  subst c3;(have H1:((spec_lcCovers.f k a0_0 a0_1 l0_2).bind fun t104=>(if 0 < (t104.length:Int) then (some ((rd_T37 t104 0).f0,(rd_T37 t104 0).f1,true)) else (none)))=some (r1,r2,r3):=by rw [if_pos rfl] at H;exact H);clear H;have H:=H1;clear H1;obtain ⟨t104,A4,H⟩:=bindAside H;(try dsimp only at H);by_cases c5:0 < (t104.length:Int)
  · rw [if_pos c5] at H;have c5b0:decide (0 < (t104.length:Int))=true:=decide_eq_true c5;have c5b1:decide (0 < t104.length)=true:=decide_eq_true (by omega);clear c5;simp only [Option.some.injEq,Prod.mk.injEq] at H;obtain ⟨rfl,rfl,rfl⟩:=H;(go_enter Tryz.func13,Tryz.ntmps13);(go_wp2_with (first|((with_reducible refine zv (N:=1) rfl ?_);refine zw ?hg (N:=1) ?hd (cs:=#[.int .i64 a0_0,.int .i64 a0_1,.slice A0_2 l0_2.length c0_2]) (t:=26) ?hr ?_;(case hd=>rfl);(case hg=>rfl);(case hr=>first|(go_simp;done)|(go_simp;rfl));intro gb101 hg w6 hbox hb;have BK101:=za (hbox);have GW101:=za ((by rw [hg];exact (zi (by apply_rules only [HB.out,zc,zd,zb])):w.heap.size≤gb101));have GE101:=za ((by rw [hg];exact (zi (by apply_rules only [HB.out,zc,zd,zb])):w.heap.size≤gb101));replace HB:=za (zl (by apply_rules only [HB.out,zc,zd,zb]) hb);clear hb hbox hg)|((with_reducible refine zv (N:=2) rfl ?_);refine zw ?hg (N:=2) ?hd (cs:=#[.slice none 0 0,.slice none 0 0]) (t:=37) ?hr ?_;(case hd=>rfl);(case hg=>rfl);(case hr=>first|(go_simp;done)|(go_simp;rfl));intro gb102 hg w7 hbox hb;have BK102:=za (hbox);have GW102:=za ((by rw [hg];exact (zi (by apply_rules only [HB.out,zc,zd,zb,zg,GE101.out])):w.heap.size≤gb102));have GE102:=za ((by rw [hg];exact (zi (by apply_rules only [HB.out,zc,zd,zb,zg,GE101.out])):w.heap.size≤gb102));replace HB:=za (zl (by apply_rules only [HB.out,zc,zd,zb,zg,GE101.out]) hb);have NB101_102:=za ((by rw [hg];exact Nat.ne_of_lt (blk_lt (g:=gb101) (o:=.cells #[.int .i64 a0_0,.int .i64 a0_1,.slice A0_2 l0_2.length c0_2] 26 (0,0)) (by apply_rules only [BK101.out,zj,zh,zk])):gb101 ≠ gb102));have NB102_101:=za ((by rw [hg];exact Nat.ne_of_gt (blk_lt (g:=gb101) (o:=.cells #[.int .i64 a0_0,.int .i64 a0_1,.slice A0_2 l0_2.length c0_2] 26 (0,0)) (by apply_rules only [BK101.out,zj,zh,zk])):gb102 ≠ gb101));replace BK101:=za (zp (g:=gb101) (o:=.cells #[.int .i64 a0_0,.int .i64 a0_1,.slice A0_2 l0_2.length c0_2] 26 (0,0)) (by apply_rules only [BK101.out,zj,zh,zk]) hb);clear hb hbox hg;have hnb8:=NB101_102.out;have hnc8:=NB102_101.out;have hcz9_0:w7.cell? ⟨gb101,0,none⟩=some (.int .i64 a0_0):=(ze BK101.out 0).trans rfl;have hcz9_1:w7.cell? ⟨gb101,1,none⟩=some (.int .i64 a0_1):=(ze BK101.out 1).trans rfl;have hcz9_2:w7.cell? ⟨gb101,2,none⟩=some (.slice A0_2 l0_2.length c0_2):=(ze BK101.out 2).trans rfl;have hfz9_0:=zf BK101.out 0;have hfz9_1:=zf BK101.out 1;have hfz9_2:=zf BK101.out 2)|((with_reducible refine zu (f:=26) rfl ?_);refine goesL_ (some 5) rfl rfl Tryz.func26 (by kernel_rfl) rfl #[.agg #[.int .i64 a0_0,.int .i64 a0_1,.slice A0_2 l0_2.length c0_2]] rfl (by first|rfl|simp only [z3_,z4_,z5_];try rfl) ?_;(with_reducible refine (spec_boGood.calls k a0_0 a0_1 _ _ l0_2 true _ ?side1 ?side2 A2.out).mono ?_);(case side1=>apply_rules only [zq HR0_2.out HB.out,zm,zn,zo]);(case side2=>exact HC0_2.out);rintro e w10 ⟨rfl,hb⟩;refine ⟨_,rfl,?_⟩;replace BK101:=za (zp (g:=gb101) (o:=.cells #[.int .i64 a0_0,.int .i64 a0_1,.slice A0_2 l0_2.length c0_2] 26 (0,0)) (by apply_rules only [BK101.out,zj,zh,zk]) hb);replace BK102:=za (zp (g:=gb102) (o:=.cells #[.slice none 0 0,.slice none 0 0] 37 (0,0)) (by apply_rules only [BK102.out,zj,zh,zk]) hb);replace HB:=za (zl (by apply_rules only [HB.out,zc,zd,zb,zg,GE101.out,GE102.out]) hb);have hcz11_0:w10.cell? ⟨gb101,0,none⟩=some (.int .i64 a0_0):=(ze BK101.out 0).trans rfl;have hcz11_1:w10.cell? ⟨gb101,1,none⟩=some (.int .i64 a0_1):=(ze BK101.out 1).trans rfl;have hcz11_2:w10.cell? ⟨gb101,2,none⟩=some (.slice A0_2 l0_2.length c0_2):=(ze BK101.out 2).trans rfl;have hfz11_0:=zf BK101.out 0;have hfz11_1:=zf BK101.out 1;have hfz11_2:=zf BK101.out 2)|((with_reducible refine zu (f:=30) rfl ?_);refine goesL_ (some 9) rfl rfl Tryz.func30 (by kernel_rfl) rfl #[.agg #[.int .i64 a0_0,.int .i64 a0_1,.slice A0_2 l0_2.length c0_2]] rfl (by first|rfl|simp only [z3_,z4_,z5_];try rfl) ?_;(with_reducible refine (spec_lcCovers.calls k a0_0 a0_1 _ _ l0_2 t104 _ ?side1 ?side2 A4.out).mono ?_);(case side1=>apply_rules only [zq HR0_2.out HB.out,zm,zn,zo]);(case side2=>exact HC0_2.out);rintro e w12 ⟨v105,rfl,ho0,hb⟩;refine ⟨_,rfl,?_⟩;have HO106:=za (Kd.N_lower (Kd.N_mono (ok':=fun k_=>(w.heap.size≤k_)∧k_ ≠ gb101∧k_ ≠ gb102) ho0 (fun k_ hk_=>⟨(Nat.le_trans (zi (by apply_rules only [HB.out,zc,zd,zb,zg,GE101.out,GE102.out])) hk_),(Kd.freshB (g:=gb101) (o:=.cells #[.int .i64 a0_0,.int .i64 a0_1,.slice A0_2 l0_2.length c0_2] 26 (0,0)) (by apply_rules only [BK101.out,zj,zh,zk]) k_ hk_),(Kd.freshB (g:=gb102) (o:=.cells #[.slice none 0 0,.slice none 0 0] 37 (0,0)) (by apply_rules only [BK102.out,zj,zh,zk]) k_ hk_)⟩)) (zi (by apply_rules only [HB.out,zc,zd,zb,zg,GE101.out,GE102.out])));replace BK101:=za (zp (g:=gb101) (o:=.cells #[.int .i64 a0_0,.int .i64 a0_1,.slice A0_2 l0_2.length c0_2] 26 (0,0)) (by apply_rules only [BK101.out,zj,zh,zk]) hb);replace BK102:=za (zp (g:=gb102) (o:=.cells #[.slice none 0 0,.slice none 0 0] 37 (0,0)) (by apply_rules only [BK102.out,zj,zh,zk]) hb);replace HB:=za (zl (by apply_rules only [HB.out,zc,zd,zb,zg,GE101.out,GE102.out]) hb);obtain ⟨Ao13,co13,eo13⟩:=Kd.N_slice HO106.out;subst eo13;have p107:0≤(0:Int):=(by omega);have q107:0 < (t104.length:Int):=of_decide_eq_true ‹_›;obtain ⟨ad107,A107_0,c107_0,A107_1,c107_1,e107,hx107_0,hx107_1,hl107_0,hi107_0,hl107_1,hi107_1⟩:=at_T37 (Kd.N_reads' HO106.out).2.2 0 p107 q107;cases e107;obtain ⟨ce107,hce107,hMe107,hcc107⟩:=Kd.N_get HO106.out z37 0 p107 (by first|exact q107|exact of_decide_eq_true ‹_›|(have e_:=(Kd.N_reads' HO106.out).1;omega));obtain ⟨ua107_0,uc107_0,ua107_1,uc107_1,rfl,ul107_0,ge107_0,ul107_1,ge107_1⟩:=k37_openF hMe107;have hv107_0:=hcc107 0 _ rfl;rw [Nat.add_zero] at hv107_0;replace hv107_0:=Option.some.inj (hv107_0.symm.trans hx107_0);injection hv107_0 with hva_ hvn_ hvc_;rw [hva_] at ge107_0;rw [hvc_] at ul107_0;have HL107_0:=za (show Kd.V (Kd.int .i64) 3 _ w.heap.size _ _ ((rd_T37 t104 0).f0) from Kd.V_mk ul107_0 ge107_0);clear hva_ hvn_ hvc_ ge107_0 ul107_0;have hv107_1:=hcc107 1 _ rfl;rw [add_field _ _ 1 (by omega)] at hv107_1;replace hv107_1:=Option.some.inj (hv107_1.symm.trans hx107_1);injection hv107_1 with hva_ hvn_ hvc_;rw [hva_] at ge107_1;rw [hvc_] at ul107_1;have HL107_1:=za (show Kd.V (Kd.int .i64) 3 _ w.heap.size _ _ ((rd_T37 t104 0).f1) from Kd.V_mk ul107_1 ge107_1);clear hva_ hvn_ hvc_ ge107_1 ul107_1;clear hcc107 hce107;have qi107:(0 < t104.length)=True:=eq_true (by omega);(try rw [show ((0:Int)).toNat=0 from rfl] at hx107_0);(try rw [show 0 * 2=0 from rfl] at hx107_0);(try rw [Addr.add_zero'] at hx107_0);(try rw [show ((0:Int)).toNat=0 from rfl] at hx107_1);(try rw [show 0 * 2=0 from rfl] at hx107_1);(try rw [Addr.add_zero'] at hx107_1);have HR107_0:=za hi107_0;have HC107_0:=za hl107_0;clear hi107_0 hl107_0;have HR107_1:=za hi107_1;have HC107_1:=za hl107_1;clear hi107_1 hl107_1;replace p107:=eq_true p107;replace q107:=eq_true q107;have hcz14_0:w12.cell? ⟨gb102,0,none⟩=some (.slice none 0 0):=(ze BK102.out 0).trans rfl;have hcz14_1:w12.cell? ⟨gb102,1,none⟩=some (.slice none 0 0):=(ze BK102.out 1).trans rfl;have hfz14_0:=zf BK102.out 0;have hfz14_1:=zf BK102.out 1)));refine bodyPost_ret (results_ct rfl _ _ gb102 37 #[.slice A107_0 ((rd_T37 t104 0).f0).length c107_0,.slice A107_1 ((rd_T37 t104 0).f1).length c107_1] (0,0) _ rfl (by (with_reducible repeat (first|refine zj ?_ _|refine zh ?_|refine zk ?_ _));refine blk_put (cs:=#[.slice A107_0 ((rd_T37 t104 0).f0).length c107_0,.slice none 0 0]) ?_ 1 _ rfl;(with_reducible repeat (first|refine zj ?_ _|refine zh ?_|refine zk ?_ _));refine blk_put (cs:=#[.slice none 0 0,.slice none 0 0]) ?_ 0 _ rfl;apply_rules only [BK102.out,zj,zh,zk]) Tryz.underlying37 rfl (by kernel_rfl)) rfl ?_;exact ⟨_,_,by first|rfl|simp [*,errW_none,errW_some] <;> rfl,by (with_reducible repeat (first|apply Kd.V_alloc|apply Kd.V_drewN|apply Kd.V_drew));exact Kd.V_mono (Kd.V_far (p:=⟨gb102,1,none⟩) (Kd.V_far (p:=⟨gb102,0,none⟩) (Kd.V_mono HL107_0.out (fun k_ hk=>(⟨hk,hk.1.2.2⟩:_∧k_ ≠ gb102))) (fun _ hk=>hk.2) (.slice A107_0 ((rd_T37 t104 0).f0).length c107_0)) (fun _ hk=>hk.2) (.slice A107_1 ((rd_T37 t104 0).f1).length c107_1)) (fun _ hk=>hk.1.1.1),by (with_reducible repeat (first|apply Kd.V_alloc|apply Kd.V_drewN|apply Kd.V_drew));exact Kd.V_mono (Kd.V_far (p:=⟨gb102,1,none⟩) (Kd.V_far (p:=⟨gb102,0,none⟩) (Kd.V_mono HL107_1.out (fun k_ hk=>(⟨hk,hk.1.2.2⟩:_∧k_ ≠ gb102))) (fun _ hk=>hk.2) (.slice A107_0 ((rd_T37 t104 0).f0).length c107_0)) (fun _ hk=>hk.2) (.slice A107_1 ((rd_T37 t104 0).f1).length c107_1)) (fun _ hk=>hk.1.1.1),by repeat (first|(with_reducible first|exact HB.out|apply zc|apply zd|apply zb|refine zg ?_ GE101.out|refine zg ?_ GE102.out)|exact HB.out)⟩
  · rw [if_neg c5] at H;exact absurd H (by simp)
 · replace c3:=Bool.eq_false_iff.mpr c3;subst c3;(have H1:(some (([]:List Int),([]:List Int),false))=some (r1,r2,r3):=by rw [if_neg (show ¬ (false=true) by decide)] at H;exact H);clear H;have H:=H1;clear H1;simp only [Option.some.injEq,Prod.mk.injEq] at H;obtain ⟨rfl,rfl,rfl⟩:=H;(go_enter Tryz.func13,Tryz.ntmps13);(go_wp2_with (first|((with_reducible refine zv (N:=1) rfl ?_);refine zw ?hg (N:=1) ?hd (cs:=#[.int .i64 a0_0,.int .i64 a0_1,.slice A0_2 l0_2.length c0_2]) (t:=26) ?hr ?_;(case hd=>rfl);(case hg=>rfl);(case hr=>first|(go_simp;done)|(go_simp;rfl));intro gb101 hg w15 hbox hb;have BK101:=za (hbox);have GW101:=za ((by rw [hg];exact (zi (by apply_rules only [HB.out,zc,zd,zb])):w.heap.size≤gb101));have GE101:=za ((by rw [hg];exact (zi (by apply_rules only [HB.out,zc,zd,zb])):w.heap.size≤gb101));replace HB:=za (zl (by apply_rules only [HB.out,zc,zd,zb]) hb);clear hb hbox hg)|((with_reducible refine zv (N:=2) rfl ?_);refine zw ?hg (N:=2) ?hd (cs:=#[.slice none 0 0,.slice none 0 0]) (t:=37) ?hr ?_;(case hd=>rfl);(case hg=>rfl);(case hr=>first|(go_simp;done)|(go_simp;rfl));intro gb102 hg w16 hbox hb;have BK102:=za (hbox);have GW102:=za ((by rw [hg];exact (zi (by apply_rules only [HB.out,zc,zd,zb,zg,GE101.out])):w.heap.size≤gb102));have GE102:=za ((by rw [hg];exact (zi (by apply_rules only [HB.out,zc,zd,zb,zg,GE101.out])):w.heap.size≤gb102));replace HB:=za (zl (by apply_rules only [HB.out,zc,zd,zb,zg,GE101.out]) hb);have NB101_102:=za ((by rw [hg];exact Nat.ne_of_lt (blk_lt (g:=gb101) (o:=.cells #[.int .i64 a0_0,.int .i64 a0_1,.slice A0_2 l0_2.length c0_2] 26 (0,0)) (by apply_rules only [BK101.out,zj,zh,zk])):gb101 ≠ gb102));have NB102_101:=za ((by rw [hg];exact Nat.ne_of_gt (blk_lt (g:=gb101) (o:=.cells #[.int .i64 a0_0,.int .i64 a0_1,.slice A0_2 l0_2.length c0_2] 26 (0,0)) (by apply_rules only [BK101.out,zj,zh,zk])):gb102 ≠ gb101));replace BK101:=za (zp (g:=gb101) (o:=.cells #[.int .i64 a0_0,.int .i64 a0_1,.slice A0_2 l0_2.length c0_2] 26 (0,0)) (by apply_rules only [BK101.out,zj,zh,zk]) hb);clear hb hbox hg;have hnb17:=NB101_102.out;have hnc17:=NB102_101.out;have hcz18_0:w16.cell? ⟨gb101,0,none⟩=some (.int .i64 a0_0):=(ze BK101.out 0).trans rfl;have hcz18_1:w16.cell? ⟨gb101,1,none⟩=some (.int .i64 a0_1):=(ze BK101.out 1).trans rfl;have hcz18_2:w16.cell? ⟨gb101,2,none⟩=some (.slice A0_2 l0_2.length c0_2):=(ze BK101.out 2).trans rfl;have hfz18_0:=zf BK101.out 0;have hfz18_1:=zf BK101.out 1;have hfz18_2:=zf BK101.out 2)|((with_reducible refine zu (f:=26) rfl ?_);refine goesL_ (some 5) rfl rfl Tryz.func26 (by kernel_rfl) rfl #[.agg #[.int .i64 a0_0,.int .i64 a0_1,.slice A0_2 l0_2.length c0_2]] rfl (by first|rfl|simp only [z3_,z4_,z5_];try rfl) ?_;(with_reducible refine (spec_boGood.calls k a0_0 a0_1 _ _ l0_2 false _ ?side1 ?side2 A2.out).mono ?_);(case side1=>apply_rules only [zq HR0_2.out HB.out,zm,zn,zo]);(case side2=>exact HC0_2.out);rintro e w19 ⟨rfl,hb⟩;refine ⟨_,rfl,?_⟩;replace BK101:=za (zp (g:=gb101) (o:=.cells #[.int .i64 a0_0,.int .i64 a0_1,.slice A0_2 l0_2.length c0_2] 26 (0,0)) (by apply_rules only [BK101.out,zj,zh,zk]) hb);replace BK102:=za (zp (g:=gb102) (o:=.cells #[.slice none 0 0,.slice none 0 0] 37 (0,0)) (by apply_rules only [BK102.out,zj,zh,zk]) hb);replace HB:=za (zl (by apply_rules only [HB.out,zc,zd,zb,zg,GE101.out,GE102.out]) hb);have hcz20_0:w19.cell? ⟨gb102,0,none⟩=some (.slice none 0 0):=(ze BK102.out 0).trans rfl;have hcz20_1:w19.cell? ⟨gb102,1,none⟩=some (.slice none 0 0):=(ze BK102.out 1).trans rfl;have hfz20_0:=zf BK102.out 0;have hfz20_1:=zf BK102.out 1)));refine bodyPost_ret (results_ct rfl _ _ gb102 37 #[.slice none 0 0,.slice none 0 0] (0,0) _ rfl (by (with_reducible repeat (first|refine zj ?_ _|refine zh ?_|refine zk ?_ _));refine blk_put (cs:=#[.slice none 0 0,.slice none 0 0]) ?_ 1 _ rfl;(with_reducible repeat (first|refine zj ?_ _|refine zh ?_|refine zk ?_ _));refine blk_put (cs:=#[.slice none 0 0,.slice none 0 0]) ?_ 0 _ rfl;apply_rules only [BK102.out,zj,zh,zk]) Tryz.underlying37 rfl (by kernel_rfl)) rfl ?_;exact ⟨.slice none 0 0,.slice none 0 0,by first|rfl|simp [*,errW_none,errW_some] <;> rfl,Kd.V_nil _ _ _ _ _,Kd.V_nil _ _ _ _ _,by apply_rules only [HB.out,zc,zd,zb,zg,GE101.out,GE102.out]⟩
def laws_kSame.l0:Nat→List Int→List Int→Int→Int→Option (Bool)
|0,_,_,_,_=>none
|k + 1,x0,x1,x12,x13=>if x13 < x12 then (if 0≤x13 then (if x13 < (x0.length:Int) then (if x13 < (x1.length:Int) then (if (rd x0 x13)=(rd x1 x13) then (laws_kSame.l0 k x0 x1 x12 (wrap64 (x13 + 1))) else (some false)) else (none)) else (none)) else (none)) else (some true)
def laws_kSame.f (k:Nat) (l0:List Int) (l1:List Int):Option (Bool):=if (l0.length:Int)=(l1.length:Int) then (laws_kSame.l0 k l0 l1 (l0.length:Int) 0) else (some false)
set_option maxHeartbeats 8000000 in
set_option maxRecDepth 100000 in
theorem laws_kSame.calls (k:Nat) (A0:Option Addr) (c0:Nat) (l0:List Int) (A1:Option Addr) (c1:Nat) (l1:List Int) (r:Bool) (w:World) (hr0:Kd.C (Kd.int .i64) w A0 l0.length l0) (hc0:l0.length≤c0) (hr1:Kd.C (Kd.int .i64) w A1 l1.length l1) (hc1:l1.length≤c1) (h:laws_kSame.f k l0 l1=some r) :
  Calls Tryz.prog 15 #[.slice A0 l0.length c0,.slice A1 l1.length c1] w fun e w'=>e=.returned (.bool r)∧Drawn0 w w':=by
 have HR0:=za hr0;have HC0:=za hc0;clear hr0 hc0;have HR1:=za hr1;have HC1:=za hc1;clear hr1 hc1;have H:(if (l0.length:Int)=(l1.length:Int) then (laws_kSame.l0 k l0 l1 (l0.length:Int) 0) else (some false))=some r:=h;clear h;by_cases c3:(l0.length:Int)=(l1.length:Int)
 ·
  rw [if_pos c3] at H;have c3b0:((l0.length:Int) == (l1.length:Int))=true:=beq_iff_eq.mpr c3;have c3b1:((l0.length:Int) != (l1.length:Int))=false:=bne_eq_false_iff_eq.mpr c3;(have c3b2:(l0.length == l1.length)=true:=by first|simpa using c3|(simp at c3 ⊢;omega));clear c3;have H':=za H;clear H;(go_enter Tryz.func15,Tryz.ntmps15);(go_wp2);(repeat (go_quiet (fail);try go_wp2));(go_loopg [13] k (fun kq v13 w'=>∃ (x13_1:Int),v13=.int .i64 x13_1∧Aside0 (laws_kSame.l0 kq l0 l1 (l0.length:Int) x13_1=some r)∧Aside0 (kq≤k)∧Drawn0 w w'));case atStart=>exact ⟨(0),(by first|rfl|(simp;done)|(simp [*];done)),H',⟨Nat.le_refl _⟩,by apply_rules only [Drawn0.refl _,Drawn0.step]⟩
  case round =>
   clear H';(try clear c1);(try clear p2);(try clear c3);(try clear c3b0);(try clear c3b1);(try clear c3b2);obtain ⟨x13_1,rfl,HA,HK1,⟨m1,rfl⟩⟩:=hrel
   cases gk with
  |zero=>exact absurd HA.out (by simp [laws_kSame.l0])
  |succ k1 =>
    have H:=HA.out;clear HA;simp only [laws_kSame.l0] at H;by_cases c4:x13_1 < (l0.length:Int)
    ·
     rw [if_pos c4] at H;have c4b0:decide (x13_1 < (l0.length:Int))=true:=decide_eq_true c4;clear c4;by_cases c5:0≤x13_1
     ·
      rw [if_pos c5] at H;have c5b0:decide (0≤x13_1)=true:=decide_eq_true c5;clear c5;by_cases c6:x13_1 < (l0.length:Int)
      ·
       rw [if_pos c6] at H;have c6b0:decide (x13_1 < (l0.length:Int))=true:=decide_eq_true c6;clear c6;by_cases c7:x13_1 < (l1.length:Int)
       ·
        rw [if_pos c7] at H;have c7b0:decide (x13_1 < (l1.length:Int))=true:=decide_eq_true c7;clear c7;by_cases c8:(rd l0 x13_1)=(rd l1 x13_1)
        · rw [if_pos c8] at H;have c8b0:((rd l0 x13_1) == (rd l1 x13_1))=true:=beq_iff_eq.mpr c8;have c8b1:((rd l0 x13_1) != (rd l1 x13_1))=false:=bne_eq_false_iff_eq.mpr c8;clear c8;have H':=za H;clear H;have p101:0≤(x13_1:Int):=of_decide_eq_true ‹_›;have q101:x13_1 < (l0.length:Int):=of_decide_eq_true ‹_›;obtain ⟨ad101,e101,hx101_0⟩:=zx HR0.out x13_1 p101 q101;cases e101;replace p101:=eq_true p101;replace q101:=eq_true q101;have p102:0≤(x13_1:Int):=of_decide_eq_true ‹_›;have q102:x13_1 < (l1.length:Int):=of_decide_eq_true ‹_›;obtain ⟨ad102,e102,hx102_0⟩:=zx HR1.out x13_1 p102 q102;cases e102;replace p102:=eq_true p102;replace q102:=eq_true q102;(go_wp2);(repeat (go_quiet (fail);try go_wp2));(go_roundg k1);(case measure=>have:=HK1.out;omega);case rel=>exact ⟨(wrap64 (x13_1 + 1)),(by first|rfl|(simp;done)|(simp [*];done)),H',⟨by have:=HK1.out;omega⟩,by apply_rules only [Drawn0.refl _,Drawn0.step]⟩
        · rw [if_neg c8] at H;have c8b0:((rd l0 x13_1) == (rd l1 x13_1))=false:=beq_eq_false_iff_ne.mpr c8;have c8b1:((rd l0 x13_1) != (rd l1 x13_1))=true:=bne_iff_ne.mpr c8;obtain rfl:=Option.some.inj H;have p101:0≤(x13_1:Int):=of_decide_eq_true ‹_›;have q101:x13_1 < (l0.length:Int):=of_decide_eq_true ‹_›;obtain ⟨ad101,e101,hx101_0⟩:=zx HR0.out x13_1 p101 q101;cases e101;replace p101:=eq_true p101;replace q101:=eq_true q101;have p102:0≤(x13_1:Int):=of_decide_eq_true ‹_›;have q102:x13_1 < (l1.length:Int):=of_decide_eq_true ‹_›;obtain ⟨ad102,e102,hx102_0⟩:=zx HR1.out x13_1 p102 q102;cases e102;replace p102:=eq_true p102;replace q102:=eq_true q102;(go_wp2);(repeat (go_quiet (fail);try go_wp2));(go_ret);exact ⟨by first|rfl|(simp;done)|(simp [*];done),by apply_rules only [Drawn0.refl _,Drawn0.step]⟩
       · rw [if_neg c7] at H;exact absurd H (by simp)
      · rw [if_neg c6] at H;exact absurd H (by simp)
     · rw [if_neg c5] at H;exact absurd H (by simp)
    · rw [if_neg c4] at H;have c4b0:decide (x13_1 < (l0.length:Int))=false:=decide_eq_false c4;clear c4;obtain rfl:=Option.some.inj H;(go_wp2);(repeat (go_quiet (fail);try go_wp2));(go_ret);exact ⟨by first|rfl|(simp;done)|(simp [*];done),by apply_rules only [Drawn0.refl _,Drawn0.step]⟩
 · rw [if_neg c3] at H;have c3b0:((l0.length:Int) == (l1.length:Int))=false:=beq_eq_false_iff_ne.mpr c3;have c3b1:((l0.length:Int) != (l1.length:Int))=true:=bne_iff_ne.mpr c3;(have c3b2:(l0.length == l1.length)=false:=by first|simpa using c3|(simp at c3 ⊢;omega));obtain rfl:=Option.some.inj H;(go_enter Tryz.func15,Tryz.ntmps15);(go_wp2);(repeat (go_quiet (fail);try go_wp2));(go_ret);exact ⟨by first|rfl|(simp;done)|(simp [*];done),by apply_rules only [Drawn0.refl _,Drawn0.step]⟩
def laws_big.f (l0:List Int) (l1:List Int):Option (Bool):=if (l0.length:Int) > 1048576 then (some true) else (some (decide ((l1.length:Int) > (wrap64 (1048576 - (l0.length:Int))))))
set_option maxHeartbeats 8000000 in
set_option maxRecDepth 100000 in
theorem laws_big.calls (A0:Option Addr) (c0:Nat) (l0:List Int) (A1:Option Addr) (c1:Nat) (l1:List Int) (r:Bool) (w:World) (hr0:Kd.C (Kd.int .u8) w A0 l0.length l0) (hc0:l0.length≤c0) (hr1:Kd.C (Kd.int .u8) w A1 l1.length l1) (hc1:l1.length≤c1) (h:laws_big.f l0 l1=some r) :
  Calls Tryz.prog 4 #[.slice A0 l0.length c0,.slice A1 l1.length c1] w fun e w'=>e=.returned (.bool r)∧Drawn0 w w':=by
 have HR0:=za hr0;have HC0:=za hc0;clear hr0 hc0;have HR1:=za hr1;have HC1:=za hc1;clear hr1 hc1;have H:(if (l0.length:Int) > 1048576 then (some true) else (some (decide ((l1.length:Int) > (wrap64 (1048576 - (l0.length:Int)))))))=some r:=h;clear h;by_cases c3:(l0.length:Int) > 1048576
 · rw [if_pos c3] at H;have c3b0:decide (1048576 < (l0.length:Int))=true:=decide_eq_true c3;have c3b1:decide (1048576 < l0.length)=true:=decide_eq_true (by omega);clear c3;obtain rfl:=Option.some.inj H;(go_enter Tryz.func4,Tryz.ntmps4);(go_wp2);(go_ret);exact ⟨by first|rfl|(simp;done)|(simp [*];done),by apply_rules only [Drawn0.refl _,Drawn0.step]⟩
 · rw [if_neg c3] at H;have c3b0:decide (1048576 < (l0.length:Int))=false:=decide_eq_false c3;have c3b1:decide (1048576 < l0.length)=false:=decide_eq_false (by omega);clear c3;obtain rfl:=Option.some.inj H;(go_enter Tryz.func4,Tryz.ntmps4);(go_wp2);(go_ret);exact ⟨by first|rfl|(simp;done)|(simp [*];done),by apply_rules only [Drawn0.refl _,Drawn0.step]⟩
end Go.Proofs.YtpjjeeabpaojnaaGreat.Q
end
section
namespace Go.Proofs.YtpjjeeabpaojnaaGreat.DrawK
set_option linter.unusedVariables false
open Go.RowKit Go.Proofs.YtpjjeeabpaojnaaGreat.Q Go.Proofs.YtpjjeeabpaojnaaGreatW.PrintWords Go.Proofs.YtpjjeeabpaojnaaGreatW.PrintLast Go.Proofs.YtpjjeeabpaojnaaGreatW.PrintMore
open Go.Proofs.YtpjjeeabpaojnaaGreatL Go.Proofs.YtpjjeeabpaojnaaGreat.LawK
theorem kSame_l0 {a b:List Int} (hl:a.length≤4611686018427387904) (h:a.length=b.length):∀ (d i:Nat),i + d=a.length→a.take i=b.take i→Ev (fun k=>laws_kSame.l0 k a b (a.length:Int) i) (decide (a=b))
|0,i,hi,ht=>by
  refine Ev.step (f:=fun _=>some (decide (a=b))) (fun k=>?_) (Ev.now _)
  rw [laws_kSame.l0,if_neg (by omega)]
  rw [List.take_of_length_le (by omega),List.take_of_length_le (by omega)] at ht
  simp [ht]
|d + 1,i,hi,ht=>by
  have h1:wrap64 ((i:Int) + 1)=((i + 1:Nat):Int):=by rw [w64 (by omega) (by omega)];rfl
  have hi2:i < a.length:=by omega
  by_cases e:a[i]=b[i]'(by omega)
  ·
   refine Ev.step (fun k=>?_) (kSame_l0 hl h d (i + 1) (by omega) (by rw [List.take_succ_eq_append_getElem (by omega),List.take_succ_eq_append_getElem (by omega),ht,e]))
   rw [laws_kSame.l0,if_pos (by omega),if_pos (by omega),if_pos (by omega),if_pos (by omega),rd_lt _ _ hi2,rd_lt _ _ (by omega),if_pos e,h1]
  ·
   have:a ≠ b:=fun hab=>e (by simp [hab])
   rw [decide_eq_false this]
   refine Ev.step (f:=fun _=>some false) (fun k=>?_) (Ev.now _)
   rw [laws_kSame.l0,if_pos (by omega),if_pos (by omega),if_pos (by omega),if_pos (by omega),rd_lt _ _ hi2,rd_lt _ _ (by omega),if_neg e]
theorem kSame {a b:List Int} (hl:a.length≤4611686018427387904):Ev (fun k=>laws_kSame.f k a b) (decide (a=b)):=by
 unfold laws_kSame.f
 by_cases h:a.length=b.length
 ·
  exact Ev.congr (fun k=>if_pos (by omega)) (kSame_l0 hl h a.length 0 (by omega) (by simp))
 ·
  have:a ≠ b:=fun hab=>h (by simp [hab])
  rw [decide_eq_false this]
  exact Ev.congr (fun k=>if_neg (by omega)) (Ev.now _)
theorem kSame_self {a:List Int} (hl:a.length≤4611686018427387904):Ev (fun k=>laws_kSame.f k a a) true:=by
 have:=kSame (a:=a) (b:=a) hl
 rw [decide_eq_true rfl] at this
 exact this
theorem big_f (l0 l1:List Int) (h1:l1.length≤4611686018427387904):laws_big.f l0 l1=some true ∨ laws_big.f l0 l1=some false∧l0.length≤1048576∧l1.length≤1048576:=by
 unfold laws_big.f
 by_cases h:(l0.length:Int) > 1048576
 ·
  exact .inl (if_pos h)
 ·
  rw [if_neg h,w64 (by omega) (by omega)]
  by_cases h2:(l1.length:Int) > 1048576 - (l0.length:Int)
  ·
   exact .inl (by rw [decide_eq_true h2])
  ·
   exact .inr ⟨by rw [decide_eq_false h2],by omega,by omega⟩
theorem byte_of {x:Int} (h:(Lit.int .u8 x).wf=true):0≤x∧x≤255:=by
 simp [Lit.wf,IntKind.min,IntKind.max,IntKind.signed,IntKind.bits] at h
 omega
end Go.Proofs.YtpjjeeabpaojnaaGreat.DrawK
end
