/- Texts of this claim put together (4): words, what the functions compute, and plain facts. No conditions. -/
import Derived.Test.YtgnmcfoenmfhcaaProg
import Derived.Below
import Derived.Deep.Draws
import Derived.Deep.AppendLies
import Derived.Maps.AppendAt
import Derived.OwnWalk
import Derived.Laws.BytesArg
import Derived.Laws.MakeOwn
import Derived.Laws.OwnMore
import Derived.Deep.OwnRows
import Derived.Tactics
import Derived.Lib.ConvBytes
import Derived.Laws.Slices
import Derived.WalkKit
import Derived.KernelRfl
import Derived.RowKit3
import Derived.Deep.LoopGhost
import Derived.Deep.QuietTactic
import Derived.BigQuiet
import Derived.WideLaws
import Derived.Deep.DeepCutAuto
import Derived.Deep.CutBlock
import Derived.Deep.RegionHeld3
import Derived.Laws.Rows
import Derived.Lib.AppendStr
import Derived.ArgAppend
import Derived.Laws.IdiomCopy
import Derived.OrdersHeld
import Derived.Laws.BitsLemmas
import Derived.RowKit
import Derived.Test.YtgnmcfoenmfhcaaSFnLongerWays3
import Derived.Outline
import Derived.Lib.Hide
import Derived.Test.YtgnmcfoenmfhcaaSFnLongerWays0
section
namespace Go.Proofs.Ytgnmcfoenmfhcaa.Q
open Go.RowKit Go.Proofs.YtgnmcfoenmfhcaaW.PrintWords Go.Proofs.YtgnmcfoenmfhcaaW.PrintLast Go.Proofs.YtgnmcfoenmfhcaaW.PrintMore
attribute [local go_sem] max2_int min2_int max_two min_two max_three min_three max_four min_four   -- for this text's walks alone
set_option linter.unusedVariables false
set_option linter.unusedSimpArgs false
def errW:Option Int→Value
|none=>.nilIface
|some c=>.iface 0 (.int .i64 c)
theorem errW_none:errW none=.nilIface:=rfl
theorem errW_some (c:Int):errW (some c)=.iface 0 (.int .i64 c):=rfl
theorem info3:(Try.prog.info? 3).map (fun i=>(i.zero,i.size,i.bytes))=some (some (.int .i64 0),1,8):=by kernel_rfl
theorem info24:(Try.prog.info? 24).map (fun i=>(i.zero,i.size,i.bytes))=some (some (.slice none 0 0),1,24):=by kernel_rfl
theorem info97:(Try.prog.info? 97).map (fun i=>(i.zero,i.size,i.bytes))=some (some (.agg #[(.int .i64 0),(.slice none 0 0)]),2,32):=by kernel_rfl
def rd_L2 (xs:List (List Int)) (i:Int):(List Int):=xs.getD i.toNat ([]:List Int)
theorem at_L2 {w:World} {A:Option Addr} {n:Nat} {xs:List (List Int)} (h:Kd.C (Kd.slice 3 (Kd.int .i64)) w A n xs) (i:Int) (h0:0≤i) (h1:i < n):∃ ad A0 c0,A=some ad∧w.cell? (ad.add i.toNat)=some (.slice A0 (rd_L2 xs i).length c0)∧(rd_L2 xs i).length≤c0∧(Kd.int .i64).C w A0 (rd_L2 xs i).length (rd_L2 xs i):=by
 obtain ⟨ad,c,e,_,hK,hc0⟩:=Kd.C_get h ([]:List Int) i h0 h1;have hc:∀ j u,c[j]?=some u→w.cell? (ad.add (i.toNat * 1 + j))=some u:=hc0;obtain ⟨A0,c0,rfl,l0,g0⟩:=hK;exact ⟨ad,A0,c0,e,by have hq:=hc 0 _ rfl;rwa [Nat.mul_one,Nat.add_zero] at hq,l0,g0⟩
structure S97 where
 f0:Int
 f1:(List Int)
def z97:S97:=⟨(0:Int),([]:List Int)⟩
def k97:Kd S97:=Kd.iso (Kd.pair (Kd.int .i64) (Kd.slice 3 (Kd.int .i64))) (fun x:S97=>(x.f0,x.f1))
theorem k97_open {w:World} {x:S97} {cs:List Value} (h:k97.K w x cs):∃ A1 c1,cs=[.int .i64 x.f0,.slice A1 x.f1.length c1]∧x.f1.length≤c1∧(Kd.int .i64).C w A1 x.f1.length x.f1:=by
 obtain ⟨_,_,rfl,rfl,⟨A1,c1,rfl,l1,g1⟩⟩:=h;exact ⟨A1,c1,rfl,l1,g1⟩
theorem k97_openM {w:World} {base:Nat} {ok:Nat→Prop} {x:S97} {cs:List Value} (h:k97.M w base ok x cs):∃ v1,cs=[.int .i64 x.f0,v1]∧(Kd.int .i64).R 3 w base ok v1 x.f1:=by
 obtain ⟨_,_,rfl,rfl,⟨v1,rfl,g1⟩⟩:=h;exact ⟨v1,rfl,g1⟩
theorem k97_mkM (w:World) (base:Nat) (ok:Nat→Prop) (x:S97) {v1:Value} (g1:(Kd.int .i64).R 3 w base ok v1 x.f1):k97.M w base ok x [.int .i64 x.f0,v1]:=⟨[.int .i64 x.f0],[v1],rfl,rfl,⟨v1,rfl,g1⟩⟩
def rd_T97 (xs:List S97) (i:Int):S97:=xs.getD i.toNat z97
theorem at_T97 {w:World} {A:Option Addr} {n:Nat} {xs:List S97} (h:Kd.C k97 w A n xs) (i:Int) (h0:0≤i) (h1:i < n):∃ ad A1 c1,A=some ad∧w.cell? (ad.add (i.toNat * 2))=some (.int .i64 (rd_T97 xs i).f0)∧w.cell? ⟨(ad.add (i.toNat * 2)).block,(ad.add (i.toNat * 2)).off + 1,none⟩=some (.slice A1 (rd_T97 xs i).f1.length c1)∧(rd_T97 xs i).f1.length≤c1∧(Kd.int .i64).C w A1 (rd_T97 xs i).f1.length (rd_T97 xs i).f1:=by
 obtain ⟨ad,c,e,_,hK,hc0⟩:=Kd.C_get h z97 i h0 h1;have hc:∀ j u,c[j]?=some u→w.cell? (ad.add (i.toNat * 2 + j))=some u:=hc0;obtain ⟨A1,c1,rfl,l1,g1⟩:=k97_open hK;exact ⟨ad,A1,c1,e,hc 0 _ rfl,by rw [← add_field _ _ 1 (by omega)];exact hc 1 _ rfl,l1,g1⟩
end Go.Proofs.Ytgnmcfoenmfhcaa.Q
end
section
namespace Go.Proofs.Ytgnmcfoenmfhcaa.Q
open Go.RowKit Go.Proofs.YtgnmcfoenmfhcaaW.PrintWords Go.Proofs.YtgnmcfoenmfhcaaW.PrintLast Go.Proofs.YtgnmcfoenmfhcaaW.PrintMore
attribute [local go_sem] max2_int min2_int max_two min_two max_three min_three max_four min_four   -- for this text's walks alone
set_option linter.unusedVariables false
set_option linter.unusedSimpArgs false
def laws_big.f (l0:List Int) (l1:List Int):Option (Bool):=if (l0.length:Int) > 1048576 then (some true) else (some (decide ((l1.length:Int) > (wrap64 (1048576 - (l0.length:Int))))))
set_option maxHeartbeats 8000000 in
set_option maxRecDepth 100000 in
theorem laws_big.calls (A0:Option Addr) (c0:Nat) (l0:List Int) (A1:Option Addr) (c1:Nat) (l1:List Int) (r:Bool) (w:World) (hr0:Kd.C (Kd.int .u8) w A0 l0.length l0) (hc0:l0.length≤c0) (hr1:Kd.C (Kd.int .u8) w A1 l1.length l1) (hc1:l1.length≤c1) (h:laws_big.f l0 l1=some r) :
  Calls Try.prog 17 #[.slice A0 l0.length c0,.slice A1 l1.length c1] w fun e w'=>e=.returned (.bool r)∧Drawn0 w w':=by
 have HR0:=za hr0;have HC0:=za hc0;clear hr0 hc0;have HR1:=za hr1;have HC1:=za hc1;clear hr1 hc1;have H:(if (l0.length:Int) > 1048576 then (some true) else (some (decide ((l1.length:Int) > (wrap64 (1048576 - (l0.length:Int)))))))=some r:=h;clear h;by_cases c3:(l0.length:Int) > 1048576
 · rw [if_pos c3] at H;have c3b0:decide (1048576 < (l0.length:Int))=true:=decide_eq_true c3;have c3b1:decide (1048576 < l0.length)=true:=decide_eq_true (by omega);clear c3;obtain rfl:=Option.some.inj H;(go_enter Try.func17,Try.ntmps17);(go_wp2);(go_ret);exact ⟨by first|rfl|(simp;done)|(simp [*];done),by apply_rules only [Drawn0.refl _,Drawn0.step]⟩
 · rw [if_neg c3] at H;have c3b0:decide (1048576 < (l0.length:Int))=false:=decide_eq_false c3;have c3b1:decide (1048576 < l0.length)=false:=decide_eq_false (by omega);clear c3;obtain rfl:=Option.some.inj H;(go_enter Try.func17,Try.ntmps17);(go_wp2);(go_ret);exact ⟨by first|rfl|(simp;done)|(simp [*];done),by apply_rules only [Drawn0.refl _,Drawn0.step]⟩
end Go.Proofs.Ytgnmcfoenmfhcaa.Q
end
section
namespace Go.Proofs.Ytgnmcfoenmfhcaa.Q
open Go.RowKit Go.Proofs.YtgnmcfoenmfhcaaW.PrintWords Go.Proofs.YtgnmcfoenmfhcaaW.PrintLast Go.Proofs.YtgnmcfoenmfhcaaW.PrintMore
attribute [local go_sem] max2_int min2_int max_two min_two max_three min_three max_four min_four   -- for this text's walks alone
set_option linter.unusedVariables false
set_option linter.unusedSimpArgs false
def impl_trimmed.l0:Nat→List Int→Option (List Int)
|0,_=>none
|k + 1,x0=>if (x0.length:Int) > 0 then (if 0≤(wrap64 ((x0.length:Int) - 1)) then (if (wrap64 ((x0.length:Int) - 1)) < (x0.length:Int) then (if (rd x0 (wrap64 ((x0.length:Int) - 1)))=0 then (if (wrap64 ((x0.length:Int) - 1))≤(x0.length:Int) then (impl_trimmed.l0 k (x0.take ((wrap64 ((x0.length:Int) - 1)):Int).toNat)) else (none)) else (some x0)) else (none)) else (none)) else (some x0)
def impl_trimmed.f (k:Nat) (l0:List Int):Option (List Int):=impl_trimmed.l0 k l0
set_option maxHeartbeats 8000000 in
set_option maxRecDepth 100000 in
theorem impl_trimmed.calls (k:Nat) (P0_:Nat→Prop) (A0:Option Addr) (c0:Nat) (l0:List Int) (r:List Int) (w:World) (hs0:Kd.V (Kd.int .i64) 3 w w.heap.size (fun k_=>P0_ k_) (.slice A0 l0.length c0) l0) (h:impl_trimmed.f k l0=some r) :
  Calls Try.prog 123 #[.slice A0 l0.length c0] w fun e w'=>∃ v0_:Value,e=.returned (v0_)∧Kd.V (Kd.int .i64) 3 w' w.heap.size (fun k_=>(P0_ k_ ∨ w.heap.size≤k_)) v0_ r∧Below w.heap.size w w':=by
 have HO0:=za (show Kd.V (Kd.int .i64) 3 w w.heap.size (fun k_=>(P0_ k_ ∨ w.heap.size≤k_)) (.slice A0 l0.length c0) l0 from Kd.V_mono hs0 (fun k_ hk=>.inl hk));have HB:=za (Below.refl w.heap.size w);have H:(impl_trimmed.l0 k l0)=some r:=h;clear h;have H':=za H;clear H;(go_enter Try.func123,Try.ntmps123);(go_wp2);(go_loopg [0] k (fun kq v0 w'=>∃ (x0_1:List Int),Aside0 (impl_trimmed.l0 kq x0_1=some r)∧Aside0 (kq≤k)∧Aside0 (Kd.V (Kd.int .i64) 3 w' w.heap.size (fun k_=>(P0_ k_ ∨ w.heap.size≤k_)) v0 x0_1)∧Aside0 (Below w.heap.size w w')));case atStart=>exact ⟨(l0),H',⟨Nat.le_refl _⟩,⟨by apply_rules only [HO0.out,Kd.V_alloc,Kd.V_drewN,Kd.V_drew]⟩,⟨by apply_rules only [HB.out,zf,zg,zc]⟩⟩
 case round =>
  clear H';(try clear c1);obtain ⟨x0_1,HA,HK1,HO_0,HB⟩:=hrel
  cases gk with
 |zero=>exact absurd HA.out (by simp [impl_trimmed.l0])
 |succ k1 =>
   have H:=HA.out;clear HA;simp only [impl_trimmed.l0] at H;by_cases c2:(x0_1.length:Int) > 0
   ·
    rw [if_pos c2] at H;have c2b0:decide (0 < (x0_1.length:Int))=true:=decide_eq_true c2;have c2b1:decide (0 < x0_1.length)=true:=decide_eq_true (by omega);clear c2;obtain ⟨ji3,hji3⟩:∃ j_:Int,(wrap64 ((x0_1.length:Int) - 1))=j_:=⟨_,rfl⟩;(replace H:(if 0≤(ji3) then (if (ji3) < (x0_1.length:Int) then (if (rd x0_1 (ji3))=0 then (if (ji3)≤(x0_1.length:Int) then (impl_trimmed.l0 k1 (x0_1.take ((ji3):Int).toNat)) else (none)) else (some x0_1)) else (none)) else (none))=some r:=by first|(rw [hji3] at H;exact H)|(simp only [hji3] at H ⊢;exact H));have hji3w:(IntKind.i64.wrap ((x0_1.length:Int) - 1))=ji3:=(zo _).trans hji3;by_cases c4:0≤(ji3)
    ·
     rw [if_pos c4] at H;have c4b0:decide (0≤(ji3))=true:=decide_eq_true c4;clear c4;by_cases c5:(ji3) < (x0_1.length:Int)
     ·
      rw [if_pos c5] at H;have c5b0:decide ((ji3) < (x0_1.length:Int))=true:=decide_eq_true c5;clear c5;by_cases c6:(rd x0_1 (ji3))=0
      ·
       rw [if_pos c6] at H;have c6b0:((rd x0_1 (ji3)) == 0)=true:=beq_iff_eq.mpr c6;have c6b1:((rd x0_1 (ji3)) != 0)=false:=bne_eq_false_iff_eq.mpr c6;clear c6;have c7b0:=eq_true (of_decide_eq_true ‹_›:0≤(ji3));by_cases c8:(ji3)≤(x0_1.length:Int)
       · rw [if_pos c8] at H;have c8b0:=eq_true c8;have c8b1:decide ((ji3)≤(x0_1.length:Int))=true:=decide_eq_true c8;clear c8;obtain ⟨y102,hy102⟩:∃ y_:List Int,y_=(x0_1.take ((ji3):Int).toNat):=⟨_,rfl⟩;(replace H:(impl_trimmed.l0 k1 y102)=some r:=by first|(rw [hy102];with_reducible exact H)|(have H2_:=(Option.bind_some _ _).symm.trans H;rw [hy102];with_reducible exact H2_)|(have H2_:=(Option.bind_some _ _).symm.trans H;with_reducible exact H2_)|with_reducible exact H|(rw [hy102];exact H)|exact H);have Ny102:=za hy102;clear hy102;have H':=za H;clear H;obtain ⟨Ao9,co9,eo9⟩:=Kd.V_slice HO_0.out;subst eo9;have p101:0≤((ji3):Int):=of_decide_eq_true ‹_›;have q101:(ji3) < (x0_1.length:Int):=of_decide_eq_true ‹_›;obtain ⟨ad101,e101,hx101_0⟩:=Kd.at_int (Kd.V_reads' HO_0.out).2.2 (ji3) p101 q101;cases e101;replace p101:=eq_true p101;replace q101:=eq_true q101;have q10:((ji3):Int)≤((x0_1.length:Int):Int):=of_decide_eq_true ‹_›;obtain ⟨i010,hi010,_,hsz10,_⟩:=info_parts info3;have hroom10:x0_1.length≤co9:=(Kd.V_reads' HO_0.out).2.1;have hC10:Kd.F (Kd.int .i64) _ _ (some ad101) x0_1.length x0_1:=(Kd.V_at (base:=w.heap.size) HO_0.out).2.2;have hcut10:=cut_to (P:=Try.prog) 24 3 .i64 Try.underlying24 hi010 (some ad101) x0_1.length co9 (ji3) (of_decide_eq_true ‹_›) q10 hroom10;have hr10:=Kd.F_take (m:=((ji3):Int).toNat) hC10 (by omega);have hy10:y102.length=((ji3):Int).toNat:=(by rw [Ny102.out,List.length_take];omega);rw [← Ny102.out] at hr10;rw [← hy10] at hcut10;have HO106:=za (show Kd.V (Kd.int .i64) 3 _ w.heap.size _ (.slice (some ad101) y102.length co9) y102 from Kd.V_mk (by omega) hr10);have HC106:=za (show y102.length≤co9 from by omega);clear hr10 hC10 hroom10 hi010 hsz10;have KY10:=za hy10;clear hy10;replace q10:=eq_true q10;(go_wp2);(go_roundg k1);(case measure=>have:=HK1.out;omega);case rel=>exact ⟨(y102),H',⟨by have:=HK1.out;omega⟩,⟨by apply_rules only [HO106.out,Kd.V_alloc,Kd.V_drewN,Kd.V_drew]⟩,⟨by apply_rules only [HB.out,zf,zg,zc]⟩⟩
       · rw [if_neg c8] at H;exact absurd H (by simp)
      · rw [if_neg c6] at H;have c6b0:((rd x0_1 (ji3)) == 0)=false:=beq_eq_false_iff_ne.mpr c6;have c6b1:((rd x0_1 (ji3)) != 0)=true:=bne_iff_ne.mpr c6;obtain rfl:=Option.some.inj H;obtain ⟨Ao11,co11,eo11⟩:=Kd.V_slice HO_0.out;subst eo11;have p101:0≤((ji3):Int):=of_decide_eq_true ‹_›;have q101:(ji3) < (x0_1.length:Int):=of_decide_eq_true ‹_›;obtain ⟨ad101,e101,hx101_0⟩:=Kd.at_int (Kd.V_reads' HO_0.out).2.2 (ji3) p101 q101;cases e101;replace p101:=eq_true p101;replace q101:=eq_true q101;(go_wp2);(go_ret);exact ⟨_,by first|rfl|(simp [errW_none,errW_some] <;> rfl)|(simp only [← hji3];first|rfl|(simp [errW_none,errW_some] <;> rfl))|(simp [*,errW_none,errW_some] <;> rfl),by apply_rules only [HO_0.out,Kd.V_alloc,Kd.V_drewN,Kd.V_drew],by apply_rules only [HB.out,zf,zg,zc]⟩
     · rw [if_neg c5] at H;exact absurd H (by simp)
    · rw [if_neg c4] at H;exact absurd H (by simp)
   · rw [if_neg c2] at H;have c2b0:decide (0 < (x0_1.length:Int))=false:=decide_eq_false c2;have c2b1:decide (0 < x0_1.length)=false:=decide_eq_false (by omega);clear c2;obtain rfl:=Option.some.inj H;obtain ⟨Ao12,co12,eo12⟩:=Kd.V_slice HO_0.out;subst eo12;(go_wp2);(go_ret);exact ⟨_,by first|rfl|simp [*,errW_none,errW_some] <;> rfl,by (with_reducible repeat (first|apply Kd.V_alloc|apply Kd.V_drewN|apply Kd.V_drew));exact HO_0.out,by repeat (first|(with_reducible first|exact HB.out|apply zf|apply zg|apply zc)|exact HB.out)⟩
end Go.Proofs.Ytgnmcfoenmfhcaa.Q
end
section
namespace Go.Proofs.Ytgnmcfoenmfhcaa.Q
open Go.RowKit Go.Proofs.YtgnmcfoenmfhcaaW.PrintWords Go.Proofs.YtgnmcfoenmfhcaaW.PrintLast Go.Proofs.YtgnmcfoenmfhcaaW.PrintMore
attribute [local go_sem] max2_int min2_int max_two min_two max_three min_three max_four min_four   -- for this text's walks alone
set_option linter.unusedVariables false
set_option linter.unusedSimpArgs false
def impl_within.f (a0:Int) (a1:Int) (a2:Int):Option (Bool):=if a1≤a0 then (some (decide (a0≤a2))) else (some false)
set_option maxHeartbeats 8000000 in
set_option maxRecDepth 100000 in
theorem impl_within.calls (a0:Int) (a1:Int) (a2:Int) (r:Bool) (w:World) (h:impl_within.f a0 a1 a2=some r) :
  Calls Try.prog 95 #[.int .i64 a0,.int .i64 a1,.int .i64 a2] w fun e w'=>e=.returned (.bool r)∧Drawn0 w w':=by
 have H:(if a1≤a0 then (some (decide (a0≤a2))) else (some false))=some r:=h;clear h;by_cases c4:a1≤a0
 · rw [if_pos c4] at H;have c4b0:decide (a1≤a0)=true:=decide_eq_true c4;clear c4;obtain rfl:=Option.some.inj H;(go_enter Try.func95,Try.ntmps95);(go_wp2);(go_ret);exact ⟨by first|rfl|(simp;done)|(simp [*];done),by apply_rules only [Drawn0.refl _,Drawn0.step]⟩
 · rw [if_neg c4] at H;have c4b0:decide (a1≤a0)=false:=decide_eq_false c4;clear c4;obtain rfl:=Option.some.inj H;(go_enter Try.func95,Try.ntmps95);(go_wp2);(go_ret);exact ⟨by first|rfl|(simp;done)|(simp [*];done),by apply_rules only [Drawn0.refl _,Drawn0.step]⟩
set_option maxHeartbeats 8000000 in
set_option maxRecDepth 100000 in
theorem impl_within.calls0 (a0:Int) (a1:Int) (a2:Int) (r:Bool) (w:World) (h:impl_within.f a0 a1 a2=some r) :
  Calls Try.prog 95 #[.int .i64 a0,.int .i64 a1,.int .i64 a2] w fun e w'=>e=.returned (.bool r)∧w=w':=by
 have H:(if a1≤a0 then (some (decide (a0≤a2))) else (some false))=some r:=h;clear h;by_cases c4:a1≤a0
 · rw [if_pos c4] at H;have c4b0:decide (a1≤a0)=true:=decide_eq_true c4;clear c4;obtain rfl:=Option.some.inj H;(go_enter Try.func95,Try.ntmps95);(go_wp2);(go_ret);exact ⟨by first|rfl|(simp;done)|(simp [*];done),rfl⟩
 · rw [if_neg c4] at H;have c4b0:decide (a1≤a0)=false:=decide_eq_false c4;clear c4;obtain rfl:=Option.some.inj H;(go_enter Try.func95,Try.ntmps95);(go_wp2);(go_ret);exact ⟨by first|rfl|(simp;done)|(simp [*];done),rfl⟩
end Go.Proofs.Ytgnmcfoenmfhcaa.Q
end
section
namespace Go.Proofs.Ytgnmcfoenmfhcaa.Q
open Go.RowKit Go.Proofs.YtgnmcfoenmfhcaaW.PrintWords Go.Proofs.YtgnmcfoenmfhcaaW.PrintLast Go.Proofs.YtgnmcfoenmfhcaaW.PrintMore
attribute [local go_sem] max2_int min2_int max_two min_two max_three min_three max_four min_four   -- for this text's walks alone
set_option linter.unusedVariables false
set_option linter.unusedSimpArgs false
def impl_isSide.f (a0:Int):Option (Bool):=(impl_within.f a0 1 6).bind fun t101=>(some t101)
set_option maxHeartbeats 8000000 in
set_option maxRecDepth 100000 in
theorem impl_isSide.calls (a0:Int) (r:Bool) (w:World) (h:impl_isSide.f a0=some r) :
  Calls Try.prog 114 #[.int .i64 a0] w fun e w'=>e=.returned (.bool r)∧Drawn0 w w':=by
 have H:((impl_within.f a0 1 6).bind fun t101=>(some t101))=some r:=h;clear h;obtain ⟨t101,A2,H⟩:=bindAside H;(try dsimp only at H);obtain rfl:=Option.some.inj H;(go_enter Try.func114,Try.ntmps114);(go_wp2_with (first|((with_reducible refine zB (f:=95) rfl ?_);refine goesL_ (some 4) rfl rfl Try.func95 (by kernel_rfl) rfl #[.int .i64 a0,.int .i64 1,.int .i64 6] rfl (by first|rfl|simp only [z3_,z4_,z5_];try rfl) ?_;(with_reducible refine (impl_within.calls a0 1 6 t101 _ A2.out).mono ?_);rintro e w' ⟨rfl,⟨nd,rfl⟩⟩;refine ⟨_,rfl,?_⟩)));(go_ret);exact ⟨by first|rfl|(simp;done)|(simp [*];done),by apply_rules only [Drawn0.refl _,Drawn0.step]⟩
end Go.Proofs.Ytgnmcfoenmfhcaa.Q
end
section
namespace Go.Proofs.YtgnmcfoenmfhcaaL
set_option linter.unusedVariables false
open Go.RowKit Go.Proofs.YtgnmcfoenmfhcaaW.PrintWords Go.Proofs.YtgnmcfoenmfhcaaW.PrintLast Go.Proofs.YtgnmcfoenmfhcaaW.PrintMore
theorem w64 {n : Int} (h1 : -9223372036854775808 ≤ n) (h2 : n ≤ 9223372036854775807) : wrap64 n = n := by
  unfold wrap64; omega
theorem wrap_i64' (n : Int) : IntKind.i64.wrap n = wrap64 n := by rw [IntKind.wrap_i64]; unfold wrap64; rfl
theorem wraps_i64 (n : Int) (h₀ : 0 ≤ n) (h₁ : n < 2 ^ 63) : IntKind.i64.wrap n = n := by rw [IntKind.wrap_i64]; omega
theorem and_nat (a b : Nat) (ha : a < 2 ^ 63) (hb : b < 2 ^ 63) : Go.bits .and .i64 (a : Int) (b : Int) = ((a &&& b : Nat) : Int) :=
  (bits_nat .i64 63 (by decide) wraps_i64 a b ha hb).1
theorem or_nat (a b : Nat) (ha : a < 2 ^ 63) (hb : b < 2 ^ 63) : Go.bits .or .i64 (a : Int) (b : Int) = ((a ||| b : Nat) : Int) :=
  (bits_nat .i64 63 (by decide) wraps_i64 a b ha hb).2
theorem shl_one (n : Nat) (h : n ≤ 62) : shl .i64 1 (n : Int) = ((2 ^ n : Nat) : Int) := by
  unfold shl
  have h1 : min (n : Int).toNat (IntKind.i64.bits) = n := by
    have : IntKind.i64.bits = 64 := rfl
    rw [this, Int.toNat_natCast]; omega
  rw [h1, Int.one_mul]
  have h2 : (2 : Nat) ^ n ≤ 2 ^ 62 := Nat.pow_le_pow_right (by decide) h
  have h3 : ((2 : Int) ^ n) = ((2 ^ n : Nat) : Int) := by simp
  rw [h3]
  refine wraps_i64 _ (Int.natCast_nonneg _) ?_
  have : (2 : Nat) ^ n < 2 ^ 63 := Nat.lt_of_le_of_lt h2 (by decide)
  exact_mod_cast this
theorem shr_nat (x n : Nat) (h : n ≤ 64) : shr .i64 (x : Int) (n : Int) = ((x >>> n : Nat) : Int) := by
  unfold shr
  have h1 : min (n : Int).toNat (IntKind.i64.bits) = n := by
    have : IntKind.i64.bits = 64 := rfl
    rw [this, Int.toNat_natCast]; omega
  rw [h1, Nat.shiftRight_eq_div_pow]
  have h3 : ((2 : Int) ^ n) = ((2 ^ n : Nat) : Int) := by simp
  rw [h3]; rfl
theorem bit_and (x n : Nat) (hx : x < 2 ^ 63) (h : n ≤ 64) : Go.bits .and .i64 (shr .i64 (x : Int) (n : Int)) 1 = if x.testBit n then 1 else 0 := by
  rw [shr_nat x n h]
  have hs : x >>> n < 2 ^ 63 := Nat.lt_of_le_of_lt (by rw [Nat.shiftRight_eq_div_pow]; exact Nat.div_le_self _ _) hx
  have := and_nat (x >>> n) 1 hs (by decide)
  rw [show ((1 : Nat) : Int) = 1 from rfl] at this
  rw [this, Nat.and_one_is_mod]
  rw [Nat.testBit, Nat.one_and_eq_mod_two]
  rcases Nat.mod_two_eq_zero_or_one (x >>> n) with h | h <;> simp [h]
theorem bit_mod (x n : Nat) (h : n ≤ 64) : Int.tmod (shr .i64 (x : Int) (n : Int)) 2 = if x.testBit n then 1 else 0 := by
  rw [shr_nat x n h]
  rw [Nat.testBit, Nat.one_and_eq_mod_two]
  rw [Int.tmod_eq_emod_of_nonneg (Int.natCast_nonneg _), show ((x >>> n : Nat) : Int) % 2 = ((x >>> n % 2 : Nat) : Int) from rfl]
  rcases Nat.mod_two_eq_zero_or_one (x >>> n) with h | h <;> simp [h]
theorem gD_lt {α : Type} (xs : List α) (d : α) {i : Nat} (h : i < xs.length) : xs.getD i d = xs[i] := by simp [List.getD, h]
theorem gD_ge {α : Type} (xs : List α) (d : α) {i : Nat} (h : xs.length ≤ i) : xs.getD i d = d := by simp [List.getD, h]
theorem rd_nat (xs : List Int) (i : Nat) : rd xs (i : Int) = xs.getD i 0 := by unfold rd; rw [Int.toNat_natCast]
theorem rd_lt (xs : List Int) (i : Nat) (h : i < xs.length) : rd xs (i : Int) = xs[i] := by
  rw [rd_nat]; simp [List.getD, h]
end Go.Proofs.YtgnmcfoenmfhcaaL
end
section
namespace Go.Proofs.Ytgnmcfoenmfhcaa.Q
open Go.RowKit Go.Proofs.YtgnmcfoenmfhcaaW.PrintWords Go.Proofs.YtgnmcfoenmfhcaaW.PrintLast Go.Proofs.YtgnmcfoenmfhcaaW.PrintMore
open Go.Proofs.YtgnmcfoenmfhcaaL
set_option linter.unusedVariables false
def rowIn (c : Int) (m : Int) : Bool := decide (0 ≤ m ∧ m ≤ 2 ^ c.toNat - 1)
def isBoardB (r c : Int) (l : List Int) : Bool := decide (1 ≤ r ∧ r ≤ 6 ∧ 1 ≤ c ∧ c ≤ 6 ∧ (l.length : Int) = r) && l.all (rowIn c)
theorem within_f (a b c : Int) : impl_within.f a b c = some (decide (b ≤ a ∧ a ≤ c)) := by
  unfold impl_within.f
  by_cases h : b ≤ a
  · rw [if_pos h]; simp [h]
  · rw [if_neg h]; simp [h]
theorem isSide_f (a : Int) : impl_isSide.f a = some (decide (1 ≤ a ∧ a ≤ 6)) := by
  unfold impl_isSide.f; rw [within_f]; rfl
set_option maxHeartbeats 1000000 in
theorem isBoard1 (m c : Int) (B : Nat) (w : World) (hc : w.cell? ⟨B, 1, none⟩ = some (.int .i64 c)) (h1 : 1 ≤ c) (h6 : c ≤ 6) :
    Calls Try.prog 115 #[.int .i64 m, .pointer (some ⟨B, 0, none⟩)] w fun e w' => e = .returned (.bool (!rowIn c m)) ∧ Drawn0 w w' := by
  have key : ∀ x : Int, x = 2 ^ c.toNat - 1 → Aside0 (impl_within.f m 0 x = some (rowIn c m)) := fun x hx => ⟨by rw [hx]; exact within_f m 0 _⟩
  obtain rfl | rfl | rfl | rfl | rfl | rfl : c = 1 ∨ c = 2 ∨ c = 3 ∨ c = 4 ∨ c = 5 ∨ c = 6 := by omega
  all_goals
    have K := key _ rfl
    clear key
    generalize rowIn _ m = rr at K ⊢
    simp only [Int.reduceToNat, Int.reducePow, Int.reduceSub] at K
    go_enter Try.func115, Try.ntmps115
    go_wp2_with (first | (go_at_call 95; (refine (impl_within.calls m 0 _ rr _ K.out).mono ?_); rintro e w' ⟨rfl, ⟨nd, rfl⟩⟩))
    go_ret
    exact ⟨rfl, by repeat (first | exact Drawn0.refl _ | apply Drawn0.step)⟩
def idxB (c : Int) : List Int → Int → Int
  | [], _ => -1
  | x :: t, i => if rowIn c x = true then idxB c t (i + 1) else i
theorem idxB_neg (c : Int) : ∀ (l : List Int) (i : Int), 0 ≤ i → decide (0 ≤ idxB c l i) = !l.all (rowIn c)
  | [], _, _ => rfl
  | x :: t, i, h => by
    rw [idxB, List.all_cons]
    by_cases hx : rowIn c x = true
    · rw [if_pos hx, idxB_neg c t (i + 1) (by omega), hx, Bool.true_and]
    · rw [if_neg hx]; simp [hx, h]
set_option maxHeartbeats 1000000 in
theorem isBoardIndex (A0 : Option Addr) (c0 : Nat) (l0 : List Int) (c : Int) (B : Nat) (w : World) (hr0 : Kd.C (Kd.int .i64) w A0 l0.length l0) (hc0 : l0.length ≤ c0) (hlen : l0.length ≤ 6)
    (hc : w.cell? ⟨B, 1, none⟩ = some (.int .i64 c)) (h1 : 1 ≤ c) (h6 : c ≤ 6) :
    Calls Try.prog 129 #[.slice A0 l0.length c0, .func (.func 115) #[] #[.pointer (some ⟨B, 0, none⟩)]] w fun e w' => e = .returned (.int .i64 (idxB c l0 0)) ∧ Drawn0 w w' := by
  have HR0 := Aside0.mk hr0
  have HC0 := Aside0.mk hc0
  have HL := Aside0.mk hlen
  have HC := Aside0.mk hc
  have H1 := Aside0.mk h1
  have H6 := Aside0.mk h6
  clear hr0 hc0 hlen hc h1 h6
  obtain ⟨r, hr⟩ : ∃ r, r = idxB c l0 0 := ⟨_, rfl⟩
  rw [← hr]
  have HR := Aside0.mk hr
  clear hr
  go_enter Try.func129, Try.ntmps129
  go_wp2
  go_loopg [8] l0.length (fun kq v8 w' => ∃ (x8_1 : Int), v8 = .int .i64 x8_1 ∧ Aside0 (∃ i : Nat, x8_1 = i ∧ i + kq = l0.length ∧ idxB c (l0.drop i) i = r) ∧ Drawn0 w w')
  case atStart => exact ⟨(0), rfl, ⟨0, rfl, by omega, by rw [HR.out]; rfl⟩, by repeat (first | exact Drawn0.refl _ | apply Drawn0.step)⟩
  case round =>
    obtain ⟨x8_1, rfl, HI, ⟨m1, rfl⟩⟩ := hrel
    by_cases c3 : x8_1 < (l0.length : Int)
    · have c4b0 : decide (0 ≤ x8_1) = true := decide_eq_true (by obtain ⟨i, h, _⟩ := HI.out; omega)
      have c3b0 : decide (x8_1 < (l0.length : Int)) = true := decide_eq_true c3
      cases gk with
      | zero => exact absurd HI.out (by rintro ⟨i, h, h', _⟩; omega)
      | succ k1 =>
        clear c3
        have p101 : 0 ≤ (x8_1 : Int) := of_decide_eq_true (by first | (with_reducible assumption) | assumption)
        have q101 : x8_1 < (l0.length : Int) := of_decide_eq_true (by first | (with_reducible assumption) | assumption)
        have HX : Aside0 (∃ i : Nat, x8_1 = i ∧ i + k1 + 1 = l0.length ∧ (if rowIn c (rd l0 x8_1) = true then idxB c (l0.drop (i + 1)) (i + 1) else i) = r) := ⟨by
          obtain ⟨i, h, h', h3⟩ := HI.out
          refine ⟨i, h, by omega, ?_⟩
          rw [List.drop_eq_getElem_cons (by omega), idxB] at h3
          rw [h, rd_lt _ _ (by omega)]
          exact h3⟩
        clear HI
        obtain ⟨ad101, e101, hx101_0⟩ := Kd.at_int HR0.out x8_1 p101 q101
        cases e101
        replace p101 := eq_true p101
        replace q101 := eq_true q101
        by_cases cr : rowIn c (rd l0 x8_1) = true
        · have HB : Aside0 ((!rowIn c (rd l0 x8_1)) = false) := ⟨by rw [cr]; rfl⟩
          have HX2 : Aside0 (∃ i : Nat, wrap64 (x8_1 + 1) = i ∧ i + k1 = l0.length ∧ idxB c (l0.drop i) i = r) := ⟨by
            obtain ⟨i, h, h', h3⟩ := HX.out
            rw [if_pos cr] at h3
            have := HL.out
            refine ⟨i + 1, by rw [w64 (by omega) (by omega)]; omega, by omega, h3⟩⟩
          clear HX cr
          have CC : ∀ W : World, (∃ q, W = w.drewN q) → Calls Try.prog 115 #[.int .i64 (rd l0 x8_1), .pointer (some ⟨B, 0, none⟩)] W fun e w' => e = .returned (.bool false) ∧ Drawn0 W w' := by
            rintro W ⟨q, rfl⟩
            have := isBoard1 (rd l0 x8_1) c B (w.drewN q) HC.out H1.out H6.out
            rw [HB.out] at this
            exact this
          have CX := Lib.hid CC
          clear CC
          go_wp2_with (first | (go_at_call 115; (refine (CX.out _ ⟨_, rfl⟩).mono ?_); rintro e w' ⟨rfl, ⟨nd, rfl⟩⟩))
          go_roundg k1
          case measure => omega
          case rel => exact ⟨(wrap64 (x8_1 + 1)), (by first | rfl | (simp; done) | (simp [*]; done)), HX2, by repeat (first | exact Drawn0.refl _ | apply Drawn0.step)⟩
        · have HB : Aside0 ((!rowIn c (rd l0 x8_1)) = true) := ⟨by simp [cr]⟩
          have HX2 : Aside0 (x8_1 = r) := ⟨by
            obtain ⟨i, h, h', h3⟩ := HX.out
            rw [if_neg cr] at h3
            omega⟩
          clear HX cr
          have CC : ∀ W : World, (∃ q, W = w.drewN q) → Calls Try.prog 115 #[.int .i64 (rd l0 x8_1), .pointer (some ⟨B, 0, none⟩)] W fun e w' => e = .returned (.bool true) ∧ Drawn0 W w' := by
            rintro W ⟨q, rfl⟩
            have := isBoard1 (rd l0 x8_1) c B (w.drewN q) HC.out H1.out H6.out
            rw [HB.out] at this
            exact this
          have CX := Lib.hid CC
          clear CC
          go_wp2_with (first | (go_at_call 115; (refine (CX.out _ ⟨_, rfl⟩).mono ?_); rintro e w' ⟨rfl, ⟨nd, rfl⟩⟩))
          go_ret
          exact ⟨by rw [HX2.out]; rfl, by repeat (first | exact Drawn0.refl _ | apply Drawn0.step)⟩
    · have c3b0 : decide (x8_1 < (l0.length : Int)) = false := decide_eq_false c3
      have HX2 : Aside0 (-1 = r) := ⟨by
        obtain ⟨i, h, h', h3⟩ := HI.out
        rw [List.drop_eq_nil_of_le (by omega), idxB] at h3
        exact h3⟩
      clear c3 HI
      go_wp2
      go_ret
      exact ⟨by rw [HX2.out]; rfl, by repeat (first | exact Drawn0.refl _ | apply Drawn0.step)⟩
theorem isBoardContains (A0 : Option Addr) (c0 : Nat) (l0 : List Int) (c : Int) (B : Nat) (w : World) (hr0 : Kd.C (Kd.int .i64) w A0 l0.length l0) (hc0 : l0.length ≤ c0) (hlen : l0.length ≤ 6)
    (hc : w.cell? ⟨B, 1, none⟩ = some (.int .i64 c)) (h1 : 1 ≤ c) (h6 : c ≤ 6) :
    Calls Try.prog 103 #[.slice A0 l0.length c0, .func (.func 115) #[] #[.pointer (some ⟨B, 0, none⟩)]] w fun e w' => e = .returned (.bool (!l0.all (rowIn c))) ∧ Drawn0 w w' := by
  have C := isBoardIndex A0 c0 l0 c B w hr0 hc0 hlen hc h1 h6
  have N := Aside0.mk (idxB_neg c l0 0 (Int.le_refl _))
  have CX := Lib.hid C
  clear C hr0 hc0 hlen hc h1 h6
  rw [← N.out]
  clear N
  go_enter Try.func103, Try.ntmps103
  go_wp2_with (first | (go_at_call 129; (refine CX.out.mono ?_); rintro e w' ⟨rfl, ⟨nd, rfl⟩⟩))
  go_ret
  exact ⟨by first | rfl | (simp; done), by repeat (first | exact Drawn0.refl _ | apply Drawn0.step)⟩
def impl_IsBoard.f (a0_0 : Int) (a0_1 : Int) (l0_2 : List Int) : Option (Bool) := some (isBoardB a0_0 a0_1 l0_2)
set_option maxHeartbeats 1000000 in
theorem impl_IsBoard.calls (a0_0 : Int) (a0_1 : Int) (A0_2 : Option Addr) (c0_2 : Nat) (l0_2 : List Int) (r : Bool) (w : World) (hr0_2 : Kd.C (Kd.int .i64) w A0_2 l0_2.length l0_2) (hc0_2 : l0_2.length ≤ c0_2) (h : impl_IsBoard.f a0_0 a0_1 l0_2 = some r) :
    Calls Try.prog 71 #[.agg #[.int .i64 a0_0, .int .i64 a0_1, .slice A0_2 l0_2.length c0_2]] w fun e w' => e = .returned (.bool r) ∧ Below w.heap.size w w' := by
  have hB := Option.some.inj h
  clear h
  unfold isBoardB at hB
  have s1 := Aside0.mk (isSide_f a0_0)
  have s2 := Aside0.mk (isSide_f a0_1)
  by_cases h1 : 1 ≤ a0_0 ∧ a0_0 ≤ 6
  · rw [decide_eq_true h1] at s1
    by_cases h2 : 1 ≤ a0_1 ∧ a0_1 ≤ 6
    · rw [decide_eq_true h2] at s2
      by_cases h3 : (l0_2.length : Int) = a0_0
      · have e : r = l0_2.all (rowIn a0_1) := by rw [← hB, decide_eq_true ⟨h1.1, h1.2, h2.1, h2.2, h3⟩, Bool.true_and]
        have t1 : ((l0_2.length : Int) != a0_0) = false := bne_eq_false_iff_eq.mpr h3
        have C : ∀ W : World, Kd.C (Kd.int .i64) W A0_2 l0_2.length l0_2 → W.cell? ⟨w.heap.size, 1, none⟩ = some (.int .i64 a0_1) → Calls Try.prog 103 #[.slice A0_2 l0_2.length c0_2, .func (.func 115) #[] #[.pointer (some ⟨w.heap.size, 0, none⟩)]] W fun e w' => e = .returned (.bool (!r)) ∧ Drawn0 W w' := by
          intro W hW hcell
          rw [e]
          exact isBoardContains A0_2 c0_2 l0_2 a0_1 w.heap.size W hW hc0_2 (by omega) hcell h2.1 h2.2
        have CX := Lib.hid C
        have HR := Aside0.mk hr0_2
        clear C hr0_2 hc0_2 h1 h2 h3 e hB
        go_enter Try.func71, Try.ntmps71
        go_wp2_with (first | (go_at_call 114; (with_reducible refine (impl_isSide.calls a0_0 true _ s1.out).mono ?_); rintro e w' ⟨rfl, ⟨nd, rfl⟩⟩) | (go_at_call 114; (with_reducible refine (impl_isSide.calls a0_1 true _ s2.out).mono ?_); rintro e w' ⟨rfl, ⟨nd, rfl⟩⟩) | (go_at_call 103; (refine (CX.out _ ?side1 ?side2).mono ?_); (case side1 => repeat (first | exact HR.out | (with_reducible refine Kd.C_alloc ?_ _) | (with_reducible refine Kd.C_drewN ?_ _) | (with_reducible refine Kd.C_drew ?_))); (case side2 => first | rfl | (simp; done)); rintro e w' ⟨rfl, ⟨nd, rfl⟩⟩))
        go_ret
        exact ⟨by first | rfl | (simp; done), by repeat (first | exact Below.refl _ _ | apply below_alloc | apply pw_below_drewN | apply below_drew1)⟩
      · have e : r = false := by rw [← hB, decide_eq_false (fun hh => h3 hh.2.2.2.2), Bool.false_and]
        have t1 : ((l0_2.length : Int) != a0_0) = true := bne_iff_ne.mpr h3
        subst e
        clear hr0_2 hc0_2 h1 h2 h3 hB
        go_enter Try.func71, Try.ntmps71
        go_wp2_with (first | (go_at_call 114; (with_reducible refine (impl_isSide.calls a0_0 true _ s1.out).mono ?_); rintro e w' ⟨rfl, ⟨nd, rfl⟩⟩) | (go_at_call 114; (with_reducible refine (impl_isSide.calls a0_1 true _ s2.out).mono ?_); rintro e w' ⟨rfl, ⟨nd, rfl⟩⟩))
        go_ret
        exact ⟨by first | rfl | (simp; done), by repeat (first | exact Below.refl _ _ | apply below_alloc | apply pw_below_drewN | apply below_drew1)⟩
    · rw [decide_eq_false h2] at s2
      have e : r = false := by rw [← hB, decide_eq_false (fun hh => h2 ⟨hh.2.2.1, hh.2.2.2.1⟩), Bool.false_and]
      subst e
      clear hr0_2 hc0_2 h1 h2 hB
      go_enter Try.func71, Try.ntmps71
      go_wp2_with (first | (go_at_call 114; (with_reducible refine (impl_isSide.calls a0_0 true _ s1.out).mono ?_); rintro e w' ⟨rfl, ⟨nd, rfl⟩⟩) | (go_at_call 114; (with_reducible refine (impl_isSide.calls a0_1 false _ s2.out).mono ?_); rintro e w' ⟨rfl, ⟨nd, rfl⟩⟩))
      go_ret
      exact ⟨by first | rfl | (simp; done), by repeat (first | exact Below.refl _ _ | apply below_alloc | apply pw_below_drewN | apply below_drew1)⟩
  · rw [decide_eq_false h1] at s1
    have e : r = false := by rw [← hB, decide_eq_false (fun hh => h1 ⟨hh.1, hh.2.1⟩), Bool.false_and]
    subst e
    clear hr0_2 hc0_2 h1 hB s2
    go_enter Try.func71, Try.ntmps71
    go_wp2_with (first | (go_at_call 114; (with_reducible refine (impl_isSide.calls a0_0 false _ s1.out).mono ?_); rintro e w' ⟨rfl, ⟨nd, rfl⟩⟩))
    go_ret
    exact ⟨by first | rfl | (simp; done), by repeat (first | exact Below.refl _ _ | apply below_alloc | apply pw_below_drewN | apply below_drew1)⟩
end Go.Proofs.Ytgnmcfoenmfhcaa.Q
end
section
namespace Go.Proofs.Ytgnmcfoenmfhcaa.Q
open Go.RowKit Go.Proofs.YtgnmcfoenmfhcaaW.PrintWords Go.Proofs.YtgnmcfoenmfhcaaW.PrintLast Go.Proofs.YtgnmcfoenmfhcaaW.PrintMore
attribute [local go_sem] max2_int min2_int max_two min_two max_three min_three max_four min_four   -- for this text's walks alone
set_option linter.unusedVariables false
set_option linter.unusedSimpArgs false
def spec_l1In.f (a0:Int) (a1:Int) (a2:Int):Option (Bool):=if a0 ≥ a1 then (some (decide (a0≤a2))) else (some false)
set_option maxHeartbeats 8000000 in
set_option maxRecDepth 100000 in
theorem spec_l1In.calls (a0:Int) (a1:Int) (a2:Int) (r:Bool) (w:World) (h:spec_l1In.f a0 a1 a2=some r) :
  Calls Try.prog 91 #[.int .i64 a0,.int .i64 a1,.int .i64 a2] w fun e w'=>e=.returned (.bool r)∧Drawn0 w w':=by
 have H:(if a0 ≥ a1 then (some (decide (a0≤a2))) else (some false))=some r:=h;clear h;by_cases c4:a0 ≥ a1
 · rw [if_pos c4] at H;have c4b0:decide (a1≤a0)=true:=decide_eq_true c4;clear c4;obtain rfl:=Option.some.inj H;(go_enter Try.func91,Try.ntmps91);(go_wp2);(go_ret);exact ⟨by first|rfl|(simp;done)|(simp [*];done),by apply_rules only [Drawn0.refl _,Drawn0.step]⟩
 · rw [if_neg c4] at H;have c4b0:decide (a1≤a0)=false:=decide_eq_false c4;clear c4;obtain rfl:=Option.some.inj H;(go_enter Try.func91,Try.ntmps91);(go_wp2);(go_ret);exact ⟨by first|rfl|(simp;done)|(simp [*];done),by apply_rules only [Drawn0.refl _,Drawn0.step]⟩
set_option maxHeartbeats 8000000 in
set_option maxRecDepth 100000 in
theorem spec_l1In.calls0 (a0:Int) (a1:Int) (a2:Int) (r:Bool) (w:World) (h:spec_l1In.f a0 a1 a2=some r) :
  Calls Try.prog 91 #[.int .i64 a0,.int .i64 a1,.int .i64 a2] w fun e w'=>e=.returned (.bool r)∧w=w':=by
 have H:(if a0 ≥ a1 then (some (decide (a0≤a2))) else (some false))=some r:=h;clear h;by_cases c4:a0 ≥ a1
 · rw [if_pos c4] at H;have c4b0:decide (a1≤a0)=true:=decide_eq_true c4;clear c4;obtain rfl:=Option.some.inj H;(go_enter Try.func91,Try.ntmps91);(go_wp2);(go_ret);exact ⟨by first|rfl|(simp;done)|(simp [*];done),rfl⟩
 · rw [if_neg c4] at H;have c4b0:decide (a1≤a0)=false:=decide_eq_false c4;clear c4;obtain rfl:=Option.some.inj H;(go_enter Try.func91,Try.ntmps91);(go_wp2);(go_ret);exact ⟨by first|rfl|(simp;done)|(simp [*];done),rfl⟩
end Go.Proofs.Ytgnmcfoenmfhcaa.Q
end
section
namespace Go.Proofs.Ytgnmcfoenmfhcaa.Q
open Go.RowKit Go.Proofs.YtgnmcfoenmfhcaaW.PrintWords Go.Proofs.YtgnmcfoenmfhcaaW.PrintLast Go.Proofs.YtgnmcfoenmfhcaaW.PrintMore
attribute [local go_sem] max2_int min2_int max_two min_two max_three min_three max_four min_four   -- for this text's walks alone
set_option linter.unusedVariables false
set_option linter.unusedSimpArgs false
def spec_boSide.f (a0:Int):Option (Bool):=(spec_l1In.f a0 1 6).bind fun t101=>(some t101)
set_option maxHeartbeats 8000000 in
set_option maxRecDepth 100000 in
theorem spec_boSide.calls (a0:Int) (r:Bool) (w:World) (h:spec_boSide.f a0=some r) :
  Calls Try.prog 120 #[.int .i64 a0] w fun e w'=>e=.returned (.bool r)∧Drawn0 w w':=by
 have H:((spec_l1In.f a0 1 6).bind fun t101=>(some t101))=some r:=h;clear h;obtain ⟨t101,A2,H⟩:=bindAside H;(try dsimp only at H);obtain rfl:=Option.some.inj H;(go_enter Try.func120,Try.ntmps120);(go_wp2_with (first|((with_reducible refine zB (f:=91) rfl ?_);refine goesL_ (some 4) rfl rfl Try.func91 (by kernel_rfl) rfl #[.int .i64 a0,.int .i64 1,.int .i64 6] rfl (by first|rfl|simp only [z3_,z4_,z5_];try rfl) ?_;(with_reducible refine (spec_l1In.calls a0 1 6 t101 _ A2.out).mono ?_);rintro e w' ⟨rfl,⟨nd,rfl⟩⟩;refine ⟨_,rfl,?_⟩)));(go_ret);exact ⟨by first|rfl|(simp;done)|(simp [*];done),by apply_rules only [Drawn0.refl _,Drawn0.step]⟩
end Go.Proofs.Ytgnmcfoenmfhcaa.Q
end
section
namespace Go.Proofs.Ytgnmcfoenmfhcaa.Q
open Go.RowKit Go.Proofs.YtgnmcfoenmfhcaaW.PrintWords Go.Proofs.YtgnmcfoenmfhcaaW.PrintLast Go.Proofs.YtgnmcfoenmfhcaaW.PrintMore
attribute [local go_sem] max2_int min2_int max_two min_two max_three min_three max_four min_four   -- for this text's walks alone
set_option linter.unusedVariables false
set_option linter.unusedSimpArgs false
def spec_l1All.l0:Nat→Int→Int→List Int→Int→Int→Option (Bool)
|0,_,_,_,_,_=>none
|k + 1,x1,x2,x9,x10,x11=>if x11 < x10 then (if 0≤x11 then (if x11 < (x9.length:Int) then ((spec_l1In.f (rd x9 x11) x1 x2).bind fun t102=>(if t102=true then (spec_l1All.l0 k x1 x2 x9 x10 (wrap64 (x11 + 1))) else (some false))) else (none)) else (none)) else (some true)
def spec_l1All.f (k:Nat) (l0:List Int) (a1:Int) (a2:Int):Option (Bool):=spec_l1All.l0 k a1 a2 l0 (l0.length:Int) 0
set_option maxHeartbeats 8000000 in
set_option maxRecDepth 100000 in
theorem spec_l1All.calls (k:Nat) (A0:Option Addr) (c0:Nat) (l0:List Int) (a1:Int) (a2:Int) (r:Bool) (w:World) (hr0:Kd.C (Kd.int .i64) w A0 l0.length l0) (hc0:l0.length≤c0) (h:spec_l1All.f k l0 a1 a2=some r) :
  Calls Try.prog 121 #[.slice A0 l0.length c0,.int .i64 a1,.int .i64 a2] w fun e w'=>e=.returned (.bool r)∧Drawn0 w w':=by
 have HR0:=za hr0;have HC0:=za hc0;clear hr0 hc0;have H:(spec_l1All.l0 k a1 a2 l0 (l0.length:Int) 0)=some r:=h;clear h;have H':=za H;clear H;(go_enter Try.func121,Try.ntmps121);(go_wp2);(go_loopg [11] k (fun kq v11 w'=>∃ (x11_1:Int),v11=.int .i64 x11_1∧Aside0 (spec_l1All.l0 kq a1 a2 l0 (l0.length:Int) x11_1=some r)∧Aside0 (kq≤k)∧Drawn0 w w'));case atStart=>exact ⟨(0),(by first|rfl|(simp;done)|(simp [*];done)),H',⟨Nat.le_refl _⟩,by apply_rules only [Drawn0.refl _,Drawn0.step]⟩
 case round =>
  clear H';(try clear c1);(try clear p2);obtain ⟨x11_1,rfl,HA,HK1,⟨m1,rfl⟩⟩:=hrel
  cases gk with
 |zero=>exact absurd HA.out (by simp [spec_l1All.l0])
 |succ k1 =>
   have H:=HA.out;clear HA;simp only [spec_l1All.l0] at H;by_cases c4:x11_1 < (l0.length:Int)
   ·
    rw [if_pos c4] at H;have c4b0:decide (x11_1 < (l0.length:Int))=true:=decide_eq_true c4;clear c4;by_cases c5:0≤x11_1
    ·
     rw [if_pos c5] at H;have c5b0:decide (0≤x11_1)=true:=decide_eq_true c5;clear c5;by_cases c6:x11_1 < (l0.length:Int)
     ·
      rw [if_pos c6] at H;have c6b0:decide (x11_1 < (l0.length:Int))=true:=decide_eq_true c6;clear c6;obtain ⟨t102,A7,H⟩:=bindAside H;(try dsimp only at H);by_cases c8:t102=true
      · subst c8;(have H1:(spec_l1All.l0 k1 a1 a2 l0 (l0.length:Int) (wrap64 (x11_1 + 1)))=some r:=by rw [if_pos rfl] at H;exact H);clear H;have H:=H1;clear H1;have H':=za H;clear H;have p101:0≤(x11_1:Int):=of_decide_eq_true ‹_›;have q101:x11_1 < (l0.length:Int):=of_decide_eq_true ‹_›;obtain ⟨ad101,e101,hx101_0⟩:=Kd.at_int HR0.out x11_1 p101 q101;cases e101;replace p101:=eq_true p101;replace q101:=eq_true q101;(go_wp2_with (first|((with_reducible refine zB (f:=91) rfl ?_);refine goesL_ (some 18) rfl rfl Try.func91 (by kernel_rfl) rfl #[.int .i64 (rd l0 x11_1),.int .i64 a1,.int .i64 a2] rfl (by first|rfl|simp only [z3_,z4_,z5_];try rfl) ?_;(with_reducible refine (spec_l1In.calls (rd l0 x11_1) a1 a2 true _ A7.out).mono ?_);rintro e w' ⟨rfl,⟨nd,rfl⟩⟩;refine ⟨_,rfl,?_⟩)));(go_roundg k1);(case measure=>have:=HK1.out;omega);case rel=>exact ⟨(wrap64 (x11_1 + 1)),(by first|rfl|(simp;done)|(simp [*];done)),H',⟨by have:=HK1.out;omega⟩,by apply_rules only [Drawn0.refl _,Drawn0.step]⟩
      · replace c8:=Bool.eq_false_iff.mpr c8;subst c8;(have H1:(some false)=some r:=by rw [if_neg (show ¬ (false=true) by decide)] at H;exact H);clear H;have H:=H1;clear H1;obtain rfl:=Option.some.inj H;have p101:0≤(x11_1:Int):=of_decide_eq_true ‹_›;have q101:x11_1 < (l0.length:Int):=of_decide_eq_true ‹_›;obtain ⟨ad101,e101,hx101_0⟩:=Kd.at_int HR0.out x11_1 p101 q101;cases e101;replace p101:=eq_true p101;replace q101:=eq_true q101;(go_wp2_with (first|((with_reducible refine zB (f:=91) rfl ?_);refine goesL_ (some 18) rfl rfl Try.func91 (by kernel_rfl) rfl #[.int .i64 (rd l0 x11_1),.int .i64 a1,.int .i64 a2] rfl (by first|rfl|simp only [z3_,z4_,z5_];try rfl) ?_;(with_reducible refine (spec_l1In.calls (rd l0 x11_1) a1 a2 false _ A7.out).mono ?_);rintro e w' ⟨rfl,⟨nd,rfl⟩⟩;refine ⟨_,rfl,?_⟩)));(go_ret);exact ⟨by first|rfl|(simp;done)|(simp [*];done),by apply_rules only [Drawn0.refl _,Drawn0.step]⟩
     · rw [if_neg c6] at H;exact absurd H (by simp)
    · rw [if_neg c5] at H;exact absurd H (by simp)
   · rw [if_neg c4] at H;have c4b0:decide (x11_1 < (l0.length:Int))=false:=decide_eq_false c4;clear c4;obtain rfl:=Option.some.inj H;(go_wp2);(go_ret);exact ⟨by first|rfl|(simp;done)|(simp [*];done),by apply_rules only [Drawn0.refl _,Drawn0.step]⟩
end Go.Proofs.Ytgnmcfoenmfhcaa.Q
end
section
namespace Go.Proofs.Ytgnmcfoenmfhcaa.Q
open Go.RowKit Go.Proofs.YtgnmcfoenmfhcaaW.PrintWords Go.Proofs.YtgnmcfoenmfhcaaW.PrintLast Go.Proofs.YtgnmcfoenmfhcaaW.PrintMore
attribute [local go_sem] max2_int min2_int max_two min_two max_three min_three max_four min_four   -- for this text's walks alone
set_option linter.unusedVariables false
set_option linter.unusedSimpArgs false
def spec_boGood.f (k:Nat) (a0_0:Int) (a0_1:Int) (l0_2:List Int):Option (Bool):=(spec_boSide.f a0_0).bind fun t102=>(if t102=true then ((spec_boSide.f a0_1).bind fun t103=>(if t103=true then (if (l0_2.length:Int)=a0_0 then (if 0≤a0_1 then ((spec_l1All.f k l0_2 0 (wrap64 ((shl .i64 1 a0_1) - 1))).bind fun t104=>(some t104)) else (none)) else (some false)) else (some false))) else (some false))
set_option maxHeartbeats 8000000 in
set_option maxRecDepth 100000 in
theorem spec_boGood.calls (k:Nat) (a0_0:Int) (a0_1:Int) (A0_2:Option Addr) (c0_2:Nat) (l0_2:List Int) (r:Bool) (w:World) (hr0_2:Kd.C (Kd.int .i64) w A0_2 l0_2.length l0_2) (hc0_2:l0_2.length≤c0_2) (h:spec_boGood.f k a0_0 a0_1 l0_2=some r) :
  Calls Try.prog 76 #[.agg #[.int .i64 a0_0,.int .i64 a0_1,.slice A0_2 l0_2.length c0_2]] w fun e w'=>e=.returned (.bool r)∧Below w.heap.size w w':=by
 have hu26:=Try.underlying26;have HR0_2:=za hr0_2;have HC0_2:=za hc0_2;clear hr0_2 hc0_2;have HB:=za (Below.refl w.heap.size w);have H:((spec_boSide.f a0_0).bind fun t102=>(if t102=true then ((spec_boSide.f a0_1).bind fun t103=>(if t103=true then (if (l0_2.length:Int)=a0_0 then (if 0≤a0_1 then ((spec_l1All.f k l0_2 0 (wrap64 ((shl .i64 1 a0_1) - 1))).bind fun t104=>(some t104)) else (none)) else (some false)) else (some false))) else (some false)))=some r:=h;clear h;obtain ⟨t102,A2,H⟩:=bindAside H;(try dsimp only at H);by_cases c3:t102=true
 ·
  subst c3;(have H1:((spec_boSide.f a0_1).bind fun t103=>(if t103=true then (if (l0_2.length:Int)=a0_0 then (if 0≤a0_1 then ((spec_l1All.f k l0_2 0 (wrap64 ((shl .i64 1 a0_1) - 1))).bind fun t104=>(some t104)) else (none)) else (some false)) else (some false)))=some r:=by rw [if_pos rfl] at H;exact H);clear H;have H:=H1;clear H1;obtain ⟨t103,A4,H⟩:=bindAside H;(try dsimp only at H);by_cases c5:t103=true
  ·
   subst c5;(have H1:(if (l0_2.length:Int)=a0_0 then (if 0≤a0_1 then ((spec_l1All.f k l0_2 0 (wrap64 ((shl .i64 1 a0_1) - 1))).bind fun t104=>(some t104)) else (none)) else (some false))=some r:=by rw [if_pos rfl] at H;exact H);clear H;have H:=H1;clear H1;by_cases c6:(l0_2.length:Int)=a0_0
   ·
    rw [if_pos c6] at H;have c6b0:((l0_2.length:Int) == a0_0)=true:=beq_iff_eq.mpr c6;have c6b1:((l0_2.length:Int) != a0_0)=false:=bne_eq_false_iff_eq.mpr c6;clear c6;by_cases c7:0≤a0_1
    · rw [if_pos c7] at H;have c7b0:=eq_true c7;have c7b1:decide (0≤a0_1)=true:=decide_eq_true c7;clear c7;obtain ⟨ji8,hji8⟩:∃ j_:Int,(shl .i64 1 a0_1)=j_:=⟨_,rfl⟩;(replace H:((spec_l1All.f k l0_2 0 (wrap64 ((ji8) - 1))).bind fun t104=>(some t104))=some r:=by first|(rw [hji8] at H;exact H)|(simp only [hji8] at H ⊢;exact H));(try rw [hji8] at A2);(try rw [hji8] at A4);have hji8_:(IntKind.i64.wrap (1 * 2 ^ min a0_1.toNat 64))=ji8:=hji8;have hji8z:a0_1≤64→(IntKind.i64.wrap (1 * 2 ^ a0_1.toNat))=ji8:=shl_small hji8;(have hji8u:(IntKind.i64.wrap (2 ^ min a0_1.toNat 64))=ji8:=by have h_:=hji8_;rw [Int.one_mul] at h_;exact h_);(have hji8v:a0_1≤64→(IntKind.i64.wrap (2 ^ a0_1.toNat))=ji8:=fun hle_=>by have h_:=hji8z hle_;rw [Int.one_mul] at h_;exact h_);have hji8y:(wrap64 (1 * 2 ^ min a0_1.toNat 64))=ji8:=(zo _).symm.trans hji8_;(have hji8x:a0_1≤64→(wrap64 (1 * 2 ^ a0_1.toNat))=ji8:=fun h_=>(zo _).symm.trans (hji8z h_));obtain ⟨t104,A9,H⟩:=bindAside H;(try dsimp only at H);obtain rfl:=Option.some.inj H;(go_enter Try.func76,Try.ntmps76);(go_wp2_with (first|((with_reducible refine gate_dst (N:=1) rfl ?_);refine box_event ?hg (N:=1) ?hd (cs:=#[.int .i64 a0_0,.int .i64 a0_1,.slice A0_2 l0_2.length c0_2]) (t:=26) ?hr ?_;(case hd=>rfl);(case hg=>rfl);(case hr=>first|(go_simp;done)|(go_simp;rfl));intro gb101 hg w10 hbox hb;have BK101:=za (hbox);have GW101:=za ((by rw [hg];exact (zC (by apply_rules only [HB.out,zf,zg,zc])):w.heap.size≤gb101));have GE101:=za ((by rw [hg];exact (zC (by apply_rules only [HB.out,zf,zg,zc])):w.heap.size≤gb101));replace HB:=za (zv (by apply_rules only [HB.out,zf,zg,zc]) hb);clear hb hbox hg;have hcz11_0:w10.cell? ⟨gb101,0,none⟩=some (.int .i64 a0_0):=(zi BK101.out 0).trans rfl;have hcz11_1:w10.cell? ⟨gb101,1,none⟩=some (.int .i64 a0_1):=(zi BK101.out 1).trans rfl;have hcz11_2:w10.cell? ⟨gb101,2,none⟩=some (.slice A0_2 l0_2.length c0_2):=(zi BK101.out 2).trans rfl;have hfz11_0:=zk BK101.out 0;have hfz11_1:=zk BK101.out 1;have hfz11_2:=zk BK101.out 2)|(go_at_call 120;(with_reducible refine (spec_boSide.calls a0_0 true _ A2.out).mono ?_);rintro e w' ⟨rfl,⟨nd,rfl⟩⟩;(try first|exact ⟨rfl,_,World.drewN_drewN _ _ _⟩|exact ⟨rfl,_,Eq.trans (World.drewN_drewN _ _ _) (congrArg (World.drewN _) (Nat.add_assoc _ _ _))⟩))|(go_at_call 120;(with_reducible refine (spec_boSide.calls a0_1 true _ A4.out).mono ?_);rintro e w' ⟨rfl,⟨nd,rfl⟩⟩;(try first|exact ⟨rfl,_,World.drewN_drewN _ _ _⟩|exact ⟨rfl,_,Eq.trans (World.drewN_drewN _ _ _) (congrArg (World.drewN _) (Nat.add_assoc _ _ _))⟩))|(go_at_call 121;(with_reducible refine (spec_l1All.calls k _ _ l0_2 0 (wrap64 ((ji8) - 1)) t104 _ ?side1 ?side2 A9.out).mono ?_);(case side1=>repeat (first|exact (zF HR0_2.out (by apply_rules only [HB.out,zf,zg,zc,zh,GE101.out]))|(with_reducible refine zw ?_ _)|(with_reducible refine zx ?_ _)|(with_reducible refine zy ?_)));(case side2=>exact HC0_2.out);rintro e w' ⟨rfl,⟨nd,rfl⟩⟩;(try first|exact ⟨rfl,_,World.drewN_drewN _ _ _⟩|exact ⟨rfl,_,Eq.trans (World.drewN_drewN _ _ _) (congrArg (World.drewN _) (Nat.add_assoc _ _ _))⟩))));(repeat (go_quiet (first|((with_reducible refine gate_dst (N:=1) rfl ?_);refine box_event ?hg (N:=1) ?hd (cs:=#[.int .i64 a0_0,.int .i64 a0_1,.slice A0_2 l0_2.length c0_2]) (t:=26) ?hr ?_;(case hd=>rfl);(case hg=>rfl);(case hr=>first|(go_simp;done)|(go_simp;rfl));intro gb101 hg w10 hbox hb;have BK101:=za (hbox);have GW101:=za ((by rw [hg];exact (zC (by apply_rules only [HB.out,zf,zg,zc])):w.heap.size≤gb101));have GE101:=za ((by rw [hg];exact (zC (by apply_rules only [HB.out,zf,zg,zc])):w.heap.size≤gb101));replace HB:=za (zv (by apply_rules only [HB.out,zf,zg,zc]) hb);clear hb hbox hg;have hcz11_0:w10.cell? ⟨gb101,0,none⟩=some (.int .i64 a0_0):=(zi BK101.out 0).trans rfl;have hcz11_1:w10.cell? ⟨gb101,1,none⟩=some (.int .i64 a0_1):=(zi BK101.out 1).trans rfl;have hcz11_2:w10.cell? ⟨gb101,2,none⟩=some (.slice A0_2 l0_2.length c0_2):=(zi BK101.out 2).trans rfl;have hfz11_0:=zk BK101.out 0;have hfz11_1:=zk BK101.out 1;have hfz11_2:=zk BK101.out 2)|(go_at_call 120;(with_reducible refine (spec_boSide.calls a0_0 true _ A2.out).mono ?_);rintro e w' ⟨rfl,⟨nd,rfl⟩⟩;(try first|exact ⟨rfl,_,World.drewN_drewN _ _ _⟩|exact ⟨rfl,_,Eq.trans (World.drewN_drewN _ _ _) (congrArg (World.drewN _) (Nat.add_assoc _ _ _))⟩))|(go_at_call 120;(with_reducible refine (spec_boSide.calls a0_1 true _ A4.out).mono ?_);rintro e w' ⟨rfl,⟨nd,rfl⟩⟩;(try first|exact ⟨rfl,_,World.drewN_drewN _ _ _⟩|exact ⟨rfl,_,Eq.trans (World.drewN_drewN _ _ _) (congrArg (World.drewN _) (Nat.add_assoc _ _ _))⟩))|(go_at_call 121;(with_reducible refine (spec_l1All.calls k _ _ l0_2 0 (wrap64 ((ji8) - 1)) t104 _ ?side1 ?side2 A9.out).mono ?_);(case side1=>repeat (first|exact (zF HR0_2.out (by apply_rules only [HB.out,zf,zg,zc,zh,GE101.out]))|(with_reducible refine zw ?_ _)|(with_reducible refine zx ?_ _)|(with_reducible refine zy ?_)));(case side2=>exact HC0_2.out);rintro e w' ⟨rfl,⟨nd,rfl⟩⟩;(try first|exact ⟨rfl,_,World.drewN_drewN _ _ _⟩|exact ⟨rfl,_,Eq.trans (World.drewN_drewN _ _ _) (congrArg (World.drewN _) (Nat.add_assoc _ _ _))⟩)));try go_wp2_with (first|((with_reducible refine gate_dst (N:=1) rfl ?_);refine box_event ?hg (N:=1) ?hd (cs:=#[.int .i64 a0_0,.int .i64 a0_1,.slice A0_2 l0_2.length c0_2]) (t:=26) ?hr ?_;(case hd=>rfl);(case hg=>rfl);(case hr=>first|(go_simp;done)|(go_simp;rfl));intro gb101 hg w10 hbox hb;have BK101:=za (hbox);have GW101:=za ((by rw [hg];exact (zC (by apply_rules only [HB.out,zf,zg,zc])):w.heap.size≤gb101));have GE101:=za ((by rw [hg];exact (zC (by apply_rules only [HB.out,zf,zg,zc])):w.heap.size≤gb101));replace HB:=za (zv (by apply_rules only [HB.out,zf,zg,zc]) hb);clear hb hbox hg;have hcz11_0:w10.cell? ⟨gb101,0,none⟩=some (.int .i64 a0_0):=(zi BK101.out 0).trans rfl;have hcz11_1:w10.cell? ⟨gb101,1,none⟩=some (.int .i64 a0_1):=(zi BK101.out 1).trans rfl;have hcz11_2:w10.cell? ⟨gb101,2,none⟩=some (.slice A0_2 l0_2.length c0_2):=(zi BK101.out 2).trans rfl;have hfz11_0:=zk BK101.out 0;have hfz11_1:=zk BK101.out 1;have hfz11_2:=zk BK101.out 2)|(go_at_call 120;(with_reducible refine (spec_boSide.calls a0_0 true _ A2.out).mono ?_);rintro e w' ⟨rfl,⟨nd,rfl⟩⟩;(try first|exact ⟨rfl,_,World.drewN_drewN _ _ _⟩|exact ⟨rfl,_,Eq.trans (World.drewN_drewN _ _ _) (congrArg (World.drewN _) (Nat.add_assoc _ _ _))⟩))|(go_at_call 120;(with_reducible refine (spec_boSide.calls a0_1 true _ A4.out).mono ?_);rintro e w' ⟨rfl,⟨nd,rfl⟩⟩;(try first|exact ⟨rfl,_,World.drewN_drewN _ _ _⟩|exact ⟨rfl,_,Eq.trans (World.drewN_drewN _ _ _) (congrArg (World.drewN _) (Nat.add_assoc _ _ _))⟩))|(go_at_call 121;(with_reducible refine (spec_l1All.calls k _ _ l0_2 0 (wrap64 ((ji8) - 1)) t104 _ ?side1 ?side2 A9.out).mono ?_);(case side1=>repeat (first|exact (zF HR0_2.out (by apply_rules only [HB.out,zf,zg,zc,zh,GE101.out]))|(with_reducible refine zw ?_ _)|(with_reducible refine zx ?_ _)|(with_reducible refine zy ?_)));(case side2=>exact HC0_2.out);rintro e w' ⟨rfl,⟨nd,rfl⟩⟩;(try first|exact ⟨rfl,_,World.drewN_drewN _ _ _⟩|exact ⟨rfl,_,Eq.trans (World.drewN_drewN _ _ _) (congrArg (World.drewN _) (Nat.add_assoc _ _ _))⟩)))));(go_ret);exact ⟨by first|rfl|(simp [errW_none,errW_some] <;> rfl)|(simp only [← hji8];first|rfl|(simp [errW_none,errW_some] <;> rfl))|(simp [*,errW_none,errW_some] <;> rfl),by apply_rules only [HB.out,zf,zg,zc,zh,GE101.out]⟩
    · rw [if_neg c7] at H;exact absurd H (by simp)
   · rw [if_neg c6] at H;have c6b0:((l0_2.length:Int) == a0_0)=false:=beq_eq_false_iff_ne.mpr c6;have c6b1:((l0_2.length:Int) != a0_0)=true:=bne_iff_ne.mpr c6;obtain rfl:=Option.some.inj H;(go_enter Try.func76,Try.ntmps76);(go_wp2_with (first|((with_reducible refine gate_dst (N:=1) rfl ?_);refine box_event ?hg (N:=1) ?hd (cs:=#[.int .i64 a0_0,.int .i64 a0_1,.slice A0_2 l0_2.length c0_2]) (t:=26) ?hr ?_;(case hd=>rfl);(case hg=>rfl);(case hr=>first|(go_simp;done)|(go_simp;rfl));intro gb101 hg w12 hbox hb;have BK101:=za (hbox);have GW101:=za ((by rw [hg];exact (zC (by apply_rules only [HB.out,zf,zg,zc])):w.heap.size≤gb101));have GE101:=za ((by rw [hg];exact (zC (by apply_rules only [HB.out,zf,zg,zc])):w.heap.size≤gb101));replace HB:=za (zv (by apply_rules only [HB.out,zf,zg,zc]) hb);clear hb hbox hg;have hcz13_0:w12.cell? ⟨gb101,0,none⟩=some (.int .i64 a0_0):=(zi BK101.out 0).trans rfl;have hcz13_1:w12.cell? ⟨gb101,1,none⟩=some (.int .i64 a0_1):=(zi BK101.out 1).trans rfl;have hcz13_2:w12.cell? ⟨gb101,2,none⟩=some (.slice A0_2 l0_2.length c0_2):=(zi BK101.out 2).trans rfl;have hfz13_0:=zk BK101.out 0;have hfz13_1:=zk BK101.out 1;have hfz13_2:=zk BK101.out 2)|(go_at_call 120;(with_reducible refine (spec_boSide.calls a0_0 true _ A2.out).mono ?_);rintro e w' ⟨rfl,⟨nd,rfl⟩⟩;(try first|exact ⟨rfl,_,World.drewN_drewN _ _ _⟩|exact ⟨rfl,_,Eq.trans (World.drewN_drewN _ _ _) (congrArg (World.drewN _) (Nat.add_assoc _ _ _))⟩))|(go_at_call 120;(with_reducible refine (spec_boSide.calls a0_1 true _ A4.out).mono ?_);rintro e w' ⟨rfl,⟨nd,rfl⟩⟩;(try first|exact ⟨rfl,_,World.drewN_drewN _ _ _⟩|exact ⟨rfl,_,Eq.trans (World.drewN_drewN _ _ _) (congrArg (World.drewN _) (Nat.add_assoc _ _ _))⟩))));(repeat (go_quiet (first|((with_reducible refine gate_dst (N:=1) rfl ?_);refine box_event ?hg (N:=1) ?hd (cs:=#[.int .i64 a0_0,.int .i64 a0_1,.slice A0_2 l0_2.length c0_2]) (t:=26) ?hr ?_;(case hd=>rfl);(case hg=>rfl);(case hr=>first|(go_simp;done)|(go_simp;rfl));intro gb101 hg w12 hbox hb;have BK101:=za (hbox);have GW101:=za ((by rw [hg];exact (zC (by apply_rules only [HB.out,zf,zg,zc])):w.heap.size≤gb101));have GE101:=za ((by rw [hg];exact (zC (by apply_rules only [HB.out,zf,zg,zc])):w.heap.size≤gb101));replace HB:=za (zv (by apply_rules only [HB.out,zf,zg,zc]) hb);clear hb hbox hg;have hcz13_0:w12.cell? ⟨gb101,0,none⟩=some (.int .i64 a0_0):=(zi BK101.out 0).trans rfl;have hcz13_1:w12.cell? ⟨gb101,1,none⟩=some (.int .i64 a0_1):=(zi BK101.out 1).trans rfl;have hcz13_2:w12.cell? ⟨gb101,2,none⟩=some (.slice A0_2 l0_2.length c0_2):=(zi BK101.out 2).trans rfl;have hfz13_0:=zk BK101.out 0;have hfz13_1:=zk BK101.out 1;have hfz13_2:=zk BK101.out 2)|(go_at_call 120;(with_reducible refine (spec_boSide.calls a0_0 true _ A2.out).mono ?_);rintro e w' ⟨rfl,⟨nd,rfl⟩⟩;(try first|exact ⟨rfl,_,World.drewN_drewN _ _ _⟩|exact ⟨rfl,_,Eq.trans (World.drewN_drewN _ _ _) (congrArg (World.drewN _) (Nat.add_assoc _ _ _))⟩))|(go_at_call 120;(with_reducible refine (spec_boSide.calls a0_1 true _ A4.out).mono ?_);rintro e w' ⟨rfl,⟨nd,rfl⟩⟩;(try first|exact ⟨rfl,_,World.drewN_drewN _ _ _⟩|exact ⟨rfl,_,Eq.trans (World.drewN_drewN _ _ _) (congrArg (World.drewN _) (Nat.add_assoc _ _ _))⟩)));try go_wp2_with (first|((with_reducible refine gate_dst (N:=1) rfl ?_);refine box_event ?hg (N:=1) ?hd (cs:=#[.int .i64 a0_0,.int .i64 a0_1,.slice A0_2 l0_2.length c0_2]) (t:=26) ?hr ?_;(case hd=>rfl);(case hg=>rfl);(case hr=>first|(go_simp;done)|(go_simp;rfl));intro gb101 hg w12 hbox hb;have BK101:=za (hbox);have GW101:=za ((by rw [hg];exact (zC (by apply_rules only [HB.out,zf,zg,zc])):w.heap.size≤gb101));have GE101:=za ((by rw [hg];exact (zC (by apply_rules only [HB.out,zf,zg,zc])):w.heap.size≤gb101));replace HB:=za (zv (by apply_rules only [HB.out,zf,zg,zc]) hb);clear hb hbox hg;have hcz13_0:w12.cell? ⟨gb101,0,none⟩=some (.int .i64 a0_0):=(zi BK101.out 0).trans rfl;have hcz13_1:w12.cell? ⟨gb101,1,none⟩=some (.int .i64 a0_1):=(zi BK101.out 1).trans rfl;have hcz13_2:w12.cell? ⟨gb101,2,none⟩=some (.slice A0_2 l0_2.length c0_2):=(zi BK101.out 2).trans rfl;have hfz13_0:=zk BK101.out 0;have hfz13_1:=zk BK101.out 1;have hfz13_2:=zk BK101.out 2)|(go_at_call 120;(with_reducible refine (spec_boSide.calls a0_0 true _ A2.out).mono ?_);rintro e w' ⟨rfl,⟨nd,rfl⟩⟩;(try first|exact ⟨rfl,_,World.drewN_drewN _ _ _⟩|exact ⟨rfl,_,Eq.trans (World.drewN_drewN _ _ _) (congrArg (World.drewN _) (Nat.add_assoc _ _ _))⟩))|(go_at_call 120;(with_reducible refine (spec_boSide.calls a0_1 true _ A4.out).mono ?_);rintro e w' ⟨rfl,⟨nd,rfl⟩⟩;(try first|exact ⟨rfl,_,World.drewN_drewN _ _ _⟩|exact ⟨rfl,_,Eq.trans (World.drewN_drewN _ _ _) (congrArg (World.drewN _) (Nat.add_assoc _ _ _))⟩)))));(go_ret);exact ⟨by first|rfl|simp [*,errW_none,errW_some] <;> rfl,by repeat (first|(with_reducible first|exact HB.out|apply zf|apply zg|apply zc|refine zh ?_ GE101.out)|exact HB.out)⟩
  · replace c5:=Bool.eq_false_iff.mpr c5;subst c5;(have H1:(some false)=some r:=by rw [if_neg (show ¬ (false=true) by decide)] at H;exact H);clear H;have H:=H1;clear H1;obtain rfl:=Option.some.inj H;(go_enter Try.func76,Try.ntmps76);(go_wp2_with (first|((with_reducible refine gate_dst (N:=1) rfl ?_);refine box_event ?hg (N:=1) ?hd (cs:=#[.int .i64 a0_0,.int .i64 a0_1,.slice A0_2 l0_2.length c0_2]) (t:=26) ?hr ?_;(case hd=>rfl);(case hg=>rfl);(case hr=>first|(go_simp;done)|(go_simp;rfl));intro gb101 hg w14 hbox hb;have BK101:=za (hbox);have GW101:=za ((by rw [hg];exact (zC (by apply_rules only [HB.out,zf,zg,zc])):w.heap.size≤gb101));have GE101:=za ((by rw [hg];exact (zC (by apply_rules only [HB.out,zf,zg,zc])):w.heap.size≤gb101));replace HB:=za (zv (by apply_rules only [HB.out,zf,zg,zc]) hb);clear hb hbox hg;have hcz15_0:w14.cell? ⟨gb101,0,none⟩=some (.int .i64 a0_0):=(zi BK101.out 0).trans rfl;have hcz15_1:w14.cell? ⟨gb101,1,none⟩=some (.int .i64 a0_1):=(zi BK101.out 1).trans rfl;have hcz15_2:w14.cell? ⟨gb101,2,none⟩=some (.slice A0_2 l0_2.length c0_2):=(zi BK101.out 2).trans rfl;have hfz15_0:=zk BK101.out 0;have hfz15_1:=zk BK101.out 1;have hfz15_2:=zk BK101.out 2)|(go_at_call 120;(with_reducible refine (spec_boSide.calls a0_0 true _ A2.out).mono ?_);rintro e w' ⟨rfl,⟨nd,rfl⟩⟩;(try first|exact ⟨rfl,_,World.drewN_drewN _ _ _⟩|exact ⟨rfl,_,Eq.trans (World.drewN_drewN _ _ _) (congrArg (World.drewN _) (Nat.add_assoc _ _ _))⟩))|(go_at_call 120;(with_reducible refine (spec_boSide.calls a0_1 false _ A4.out).mono ?_);rintro e w' ⟨rfl,⟨nd,rfl⟩⟩;(try first|exact ⟨rfl,_,World.drewN_drewN _ _ _⟩|exact ⟨rfl,_,Eq.trans (World.drewN_drewN _ _ _) (congrArg (World.drewN _) (Nat.add_assoc _ _ _))⟩))));(repeat (go_quiet (first|((with_reducible refine gate_dst (N:=1) rfl ?_);refine box_event ?hg (N:=1) ?hd (cs:=#[.int .i64 a0_0,.int .i64 a0_1,.slice A0_2 l0_2.length c0_2]) (t:=26) ?hr ?_;(case hd=>rfl);(case hg=>rfl);(case hr=>first|(go_simp;done)|(go_simp;rfl));intro gb101 hg w14 hbox hb;have BK101:=za (hbox);have GW101:=za ((by rw [hg];exact (zC (by apply_rules only [HB.out,zf,zg,zc])):w.heap.size≤gb101));have GE101:=za ((by rw [hg];exact (zC (by apply_rules only [HB.out,zf,zg,zc])):w.heap.size≤gb101));replace HB:=za (zv (by apply_rules only [HB.out,zf,zg,zc]) hb);clear hb hbox hg;have hcz15_0:w14.cell? ⟨gb101,0,none⟩=some (.int .i64 a0_0):=(zi BK101.out 0).trans rfl;have hcz15_1:w14.cell? ⟨gb101,1,none⟩=some (.int .i64 a0_1):=(zi BK101.out 1).trans rfl;have hcz15_2:w14.cell? ⟨gb101,2,none⟩=some (.slice A0_2 l0_2.length c0_2):=(zi BK101.out 2).trans rfl;have hfz15_0:=zk BK101.out 0;have hfz15_1:=zk BK101.out 1;have hfz15_2:=zk BK101.out 2)|(go_at_call 120;(with_reducible refine (spec_boSide.calls a0_0 true _ A2.out).mono ?_);rintro e w' ⟨rfl,⟨nd,rfl⟩⟩;(try first|exact ⟨rfl,_,World.drewN_drewN _ _ _⟩|exact ⟨rfl,_,Eq.trans (World.drewN_drewN _ _ _) (congrArg (World.drewN _) (Nat.add_assoc _ _ _))⟩))|(go_at_call 120;(with_reducible refine (spec_boSide.calls a0_1 false _ A4.out).mono ?_);rintro e w' ⟨rfl,⟨nd,rfl⟩⟩;(try first|exact ⟨rfl,_,World.drewN_drewN _ _ _⟩|exact ⟨rfl,_,Eq.trans (World.drewN_drewN _ _ _) (congrArg (World.drewN _) (Nat.add_assoc _ _ _))⟩)));try go_wp2_with (first|((with_reducible refine gate_dst (N:=1) rfl ?_);refine box_event ?hg (N:=1) ?hd (cs:=#[.int .i64 a0_0,.int .i64 a0_1,.slice A0_2 l0_2.length c0_2]) (t:=26) ?hr ?_;(case hd=>rfl);(case hg=>rfl);(case hr=>first|(go_simp;done)|(go_simp;rfl));intro gb101 hg w14 hbox hb;have BK101:=za (hbox);have GW101:=za ((by rw [hg];exact (zC (by apply_rules only [HB.out,zf,zg,zc])):w.heap.size≤gb101));have GE101:=za ((by rw [hg];exact (zC (by apply_rules only [HB.out,zf,zg,zc])):w.heap.size≤gb101));replace HB:=za (zv (by apply_rules only [HB.out,zf,zg,zc]) hb);clear hb hbox hg;have hcz15_0:w14.cell? ⟨gb101,0,none⟩=some (.int .i64 a0_0):=(zi BK101.out 0).trans rfl;have hcz15_1:w14.cell? ⟨gb101,1,none⟩=some (.int .i64 a0_1):=(zi BK101.out 1).trans rfl;have hcz15_2:w14.cell? ⟨gb101,2,none⟩=some (.slice A0_2 l0_2.length c0_2):=(zi BK101.out 2).trans rfl;have hfz15_0:=zk BK101.out 0;have hfz15_1:=zk BK101.out 1;have hfz15_2:=zk BK101.out 2)|(go_at_call 120;(with_reducible refine (spec_boSide.calls a0_0 true _ A2.out).mono ?_);rintro e w' ⟨rfl,⟨nd,rfl⟩⟩;(try first|exact ⟨rfl,_,World.drewN_drewN _ _ _⟩|exact ⟨rfl,_,Eq.trans (World.drewN_drewN _ _ _) (congrArg (World.drewN _) (Nat.add_assoc _ _ _))⟩))|(go_at_call 120;(with_reducible refine (spec_boSide.calls a0_1 false _ A4.out).mono ?_);rintro e w' ⟨rfl,⟨nd,rfl⟩⟩;(try first|exact ⟨rfl,_,World.drewN_drewN _ _ _⟩|exact ⟨rfl,_,Eq.trans (World.drewN_drewN _ _ _) (congrArg (World.drewN _) (Nat.add_assoc _ _ _))⟩)))));(go_ret);exact ⟨by first|rfl|simp [*,errW_none,errW_some] <;> rfl,by repeat (first|(with_reducible first|exact HB.out|apply zf|apply zg|apply zc|refine zh ?_ GE101.out)|exact HB.out)⟩
 · replace c3:=Bool.eq_false_iff.mpr c3;subst c3;(have H1:(some false)=some r:=by rw [if_neg (show ¬ (false=true) by decide)] at H;exact H);clear H;have H:=H1;clear H1;obtain rfl:=Option.some.inj H;(go_enter Try.func76,Try.ntmps76);(go_wp2_with (first|((with_reducible refine gate_dst (N:=1) rfl ?_);refine box_event ?hg (N:=1) ?hd (cs:=#[.int .i64 a0_0,.int .i64 a0_1,.slice A0_2 l0_2.length c0_2]) (t:=26) ?hr ?_;(case hd=>rfl);(case hg=>rfl);(case hr=>first|(go_simp;done)|(go_simp;rfl));intro gb101 hg w16 hbox hb;have BK101:=za (hbox);have GW101:=za ((by rw [hg];exact (zC (by apply_rules only [HB.out,zf,zg,zc])):w.heap.size≤gb101));have GE101:=za ((by rw [hg];exact (zC (by apply_rules only [HB.out,zf,zg,zc])):w.heap.size≤gb101));replace HB:=za (zv (by apply_rules only [HB.out,zf,zg,zc]) hb);clear hb hbox hg;have hcz17_0:w16.cell? ⟨gb101,0,none⟩=some (.int .i64 a0_0):=(zi BK101.out 0).trans rfl;have hcz17_1:w16.cell? ⟨gb101,1,none⟩=some (.int .i64 a0_1):=(zi BK101.out 1).trans rfl;have hcz17_2:w16.cell? ⟨gb101,2,none⟩=some (.slice A0_2 l0_2.length c0_2):=(zi BK101.out 2).trans rfl;have hfz17_0:=zk BK101.out 0;have hfz17_1:=zk BK101.out 1;have hfz17_2:=zk BK101.out 2)|(go_at_call 120;(with_reducible refine (spec_boSide.calls a0_0 false _ A2.out).mono ?_);rintro e w' ⟨rfl,⟨nd,rfl⟩⟩;(try first|exact ⟨rfl,_,World.drewN_drewN _ _ _⟩|exact ⟨rfl,_,Eq.trans (World.drewN_drewN _ _ _) (congrArg (World.drewN _) (Nat.add_assoc _ _ _))⟩))));(repeat (go_quiet (first|((with_reducible refine gate_dst (N:=1) rfl ?_);refine box_event ?hg (N:=1) ?hd (cs:=#[.int .i64 a0_0,.int .i64 a0_1,.slice A0_2 l0_2.length c0_2]) (t:=26) ?hr ?_;(case hd=>rfl);(case hg=>rfl);(case hr=>first|(go_simp;done)|(go_simp;rfl));intro gb101 hg w16 hbox hb;have BK101:=za (hbox);have GW101:=za ((by rw [hg];exact (zC (by apply_rules only [HB.out,zf,zg,zc])):w.heap.size≤gb101));have GE101:=za ((by rw [hg];exact (zC (by apply_rules only [HB.out,zf,zg,zc])):w.heap.size≤gb101));replace HB:=za (zv (by apply_rules only [HB.out,zf,zg,zc]) hb);clear hb hbox hg;have hcz17_0:w16.cell? ⟨gb101,0,none⟩=some (.int .i64 a0_0):=(zi BK101.out 0).trans rfl;have hcz17_1:w16.cell? ⟨gb101,1,none⟩=some (.int .i64 a0_1):=(zi BK101.out 1).trans rfl;have hcz17_2:w16.cell? ⟨gb101,2,none⟩=some (.slice A0_2 l0_2.length c0_2):=(zi BK101.out 2).trans rfl;have hfz17_0:=zk BK101.out 0;have hfz17_1:=zk BK101.out 1;have hfz17_2:=zk BK101.out 2)|(go_at_call 120;(with_reducible refine (spec_boSide.calls a0_0 false _ A2.out).mono ?_);rintro e w' ⟨rfl,⟨nd,rfl⟩⟩;(try first|exact ⟨rfl,_,World.drewN_drewN _ _ _⟩|exact ⟨rfl,_,Eq.trans (World.drewN_drewN _ _ _) (congrArg (World.drewN _) (Nat.add_assoc _ _ _))⟩)));try go_wp2_with (first|((with_reducible refine gate_dst (N:=1) rfl ?_);refine box_event ?hg (N:=1) ?hd (cs:=#[.int .i64 a0_0,.int .i64 a0_1,.slice A0_2 l0_2.length c0_2]) (t:=26) ?hr ?_;(case hd=>rfl);(case hg=>rfl);(case hr=>first|(go_simp;done)|(go_simp;rfl));intro gb101 hg w16 hbox hb;have BK101:=za (hbox);have GW101:=za ((by rw [hg];exact (zC (by apply_rules only [HB.out,zf,zg,zc])):w.heap.size≤gb101));have GE101:=za ((by rw [hg];exact (zC (by apply_rules only [HB.out,zf,zg,zc])):w.heap.size≤gb101));replace HB:=za (zv (by apply_rules only [HB.out,zf,zg,zc]) hb);clear hb hbox hg;have hcz17_0:w16.cell? ⟨gb101,0,none⟩=some (.int .i64 a0_0):=(zi BK101.out 0).trans rfl;have hcz17_1:w16.cell? ⟨gb101,1,none⟩=some (.int .i64 a0_1):=(zi BK101.out 1).trans rfl;have hcz17_2:w16.cell? ⟨gb101,2,none⟩=some (.slice A0_2 l0_2.length c0_2):=(zi BK101.out 2).trans rfl;have hfz17_0:=zk BK101.out 0;have hfz17_1:=zk BK101.out 1;have hfz17_2:=zk BK101.out 2)|(go_at_call 120;(with_reducible refine (spec_boSide.calls a0_0 false _ A2.out).mono ?_);rintro e w' ⟨rfl,⟨nd,rfl⟩⟩;(try first|exact ⟨rfl,_,World.drewN_drewN _ _ _⟩|exact ⟨rfl,_,Eq.trans (World.drewN_drewN _ _ _) (congrArg (World.drewN _) (Nat.add_assoc _ _ _))⟩)))));(go_ret);exact ⟨by first|rfl|simp [*,errW_none,errW_some] <;> rfl,by repeat (first|(with_reducible first|exact HB.out|apply zf|apply zg|apply zc|refine zh ?_ GE101.out)|exact HB.out)⟩
end Go.Proofs.Ytgnmcfoenmfhcaa.Q
end
section
namespace Go.Proofs.Ytgnmcfoenmfhcaa.Q
open Go.RowKit Go.Proofs.YtgnmcfoenmfhcaaW.PrintWords Go.Proofs.YtgnmcfoenmfhcaaW.PrintLast Go.Proofs.YtgnmcfoenmfhcaaW.PrintMore
attribute [local go_sem] max2_int min2_int max_two min_two max_three min_three max_four min_four   -- for this text's walks alone
set_option linter.unusedVariables false
set_option linter.unusedSimpArgs false
def spec_boHas.f (a0_0:Int) (a0_1:Int) (l0_2:List Int) (a1:Int) (a2:Int):Option (Bool):=if 0≤a1 then (if a1 < (l0_2.length:Int) then (if 0≤a2 then (some ((Int.tmod (shr .i64 (rd l0_2 a1) a2) 2) == 1)) else (none)) else (none)) else (none)
set_option maxHeartbeats 8000000 in
set_option maxRecDepth 100000 in
theorem spec_boHas.calls (a0_0:Int) (a0_1:Int) (A0_2:Option Addr) (c0_2:Nat) (l0_2:List Int) (a1:Int) (a2:Int) (r:Bool) (w:World) (hr0_2:Kd.C (Kd.int .i64) w A0_2 l0_2.length l0_2) (hc0_2:l0_2.length≤c0_2) (h:spec_boHas.f a0_0 a0_1 l0_2 a1 a2=some r) :
  Calls Try.prog 98 #[.agg #[.int .i64 a0_0,.int .i64 a0_1,.slice A0_2 l0_2.length c0_2],.int .i64 a1,.int .i64 a2] w fun e w'=>e=.returned (.bool r)∧Below w.heap.size w w':=by
 have hu26:=Try.underlying26;have HR0_2:=za hr0_2;have HC0_2:=za hc0_2;clear hr0_2 hc0_2;have HB:=za (Below.refl w.heap.size w);have H:(if 0≤a1 then (if a1 < (l0_2.length:Int) then (if 0≤a2 then (some ((Int.tmod (shr .i64 (rd l0_2 a1) a2) 2) == 1)) else (none)) else (none)) else (none))=some r:=h;clear h;by_cases c4:0≤a1
 ·
  rw [if_pos c4] at H;have c4b0:decide (0≤a1)=true:=decide_eq_true c4;clear c4;by_cases c5:a1 < (l0_2.length:Int)
  ·
   rw [if_pos c5] at H;have c5b0:decide (a1 < (l0_2.length:Int))=true:=decide_eq_true c5;clear c5;by_cases c6:0≤a2
   · rw [if_pos c6] at H;have c6b0:=eq_true c6;have c6b1:decide (0≤a2)=true:=decide_eq_true c6;clear c6;obtain ⟨ji7,hji7⟩:∃ j_:Int,(shr .i64 (rd l0_2 a1) a2)=j_:=⟨_,rfl⟩;(replace H:(some ((Int.tmod (ji7) 2) == 1))=some r:=by first|(rw [hji7] at H;exact H)|(simp only [hji7] at H ⊢;exact H));have hji7_:((rd l0_2 a1) / 2 ^ min a2.toNat 64)=ji7:=hji7;have hji7z:a2≤64→((rd l0_2 a1) / 2 ^ a2.toNat)=ji7:=shr_small hji7;obtain rfl:=Option.some.inj H;(go_enter Try.func98,Try.ntmps98);(go_wp2_with (first|((with_reducible refine gate_dst (N:=3) rfl ?_);refine box_event ?hg (N:=3) ?hd (cs:=#[.int .i64 a0_0,.int .i64 a0_1,.slice A0_2 l0_2.length c0_2]) (t:=26) ?hr ?_;(case hd=>rfl);(case hg=>rfl);(case hr=>first|(go_simp;done)|(go_simp;rfl));intro gb101 hg w8 hbox hb;have BK101:=za (hbox);have GW101:=za ((by rw [hg];exact (zC (by apply_rules only [HB.out,zf,zg,zc])):w.heap.size≤gb101));have GE101:=za ((by rw [hg];exact (zC (by apply_rules only [HB.out,zf,zg,zc])):w.heap.size≤gb101));replace HB:=za (zv (by apply_rules only [HB.out,zf,zg,zc]) hb);clear hb hbox hg;have hcz9_0:w8.cell? ⟨gb101,0,none⟩=some (.int .i64 a0_0):=(zi BK101.out 0).trans rfl;have hcz9_1:w8.cell? ⟨gb101,1,none⟩=some (.int .i64 a0_1):=(zi BK101.out 1).trans rfl;have hcz9_2:w8.cell? ⟨gb101,2,none⟩=some (.slice A0_2 l0_2.length c0_2):=(zi BK101.out 2).trans rfl;have hfz9_0:=zk BK101.out 0;have hfz9_1:=zk BK101.out 1;have hfz9_2:=zk BK101.out 2;have p102:0≤(a1:Int):=of_decide_eq_true ‹_›;have q102:a1 < (l0_2.length:Int):=of_decide_eq_true ‹_›;obtain ⟨ad102,e102,hx102_0⟩:=Kd.at_int HR0_2.out a1 p102 q102;cases e102;replace hx102_0:=(HB.out.cell (World.block_lt_of_cell? w _ hx102_0)).trans hx102_0;replace p102:=eq_true p102;replace q102:=eq_true q102)));(go_ret);exact ⟨by first|rfl|(simp [errW_none,errW_some] <;> rfl)|(simp only [← hji7];first|rfl|(simp [errW_none,errW_some] <;> rfl))|(simp [*,errW_none,errW_some] <;> rfl),by apply_rules only [HB.out,zf,zg,zc,zh,GE101.out]⟩
   · rw [if_neg c6] at H;exact absurd H (by simp)
  · rw [if_neg c5] at H;exact absurd H (by simp)
 · rw [if_neg c4] at H;exact absurd H (by simp)
end Go.Proofs.Ytgnmcfoenmfhcaa.Q
end
section
namespace Go.Proofs.Ytgnmcfoenmfhcaa.Q
open Go.RowKit Go.Proofs.YtgnmcfoenmfhcaaW.PrintWords Go.Proofs.YtgnmcfoenmfhcaaW.PrintLast Go.Proofs.YtgnmcfoenmfhcaaW.PrintMore
attribute [local go_sem] max2_int min2_int max_two min_two max_three min_three max_four min_four   -- for this text's walks alone
set_option linter.unusedVariables false
set_option linter.unusedSimpArgs false
def impl_Board_has.f (a0_0:Int) (a0_1:Int) (l0_2:List Int) (a1:Int) (a2:Int):Option (Bool):=if 0≤a1 then (if a1 < (l0_2.length:Int) then (if 0≤a2 then (some ((Go.bits .and .i64 (shr .i64 (rd l0_2 a1) a2) 1) == 1)) else (none)) else (none)) else (none)
set_option maxHeartbeats 8000000 in
set_option maxRecDepth 100000 in
theorem impl_Board_has.calls (a0_0:Int) (a0_1:Int) (A0_2:Option Addr) (c0_2:Nat) (l0_2:List Int) (a1:Int) (a2:Int) (r:Bool) (w:World) (hr0_2:Kd.C (Kd.int .i64) w A0_2 l0_2.length l0_2) (hc0_2:l0_2.length≤c0_2) (h:impl_Board_has.f a0_0 a0_1 l0_2 a1 a2=some r) :
  Calls Try.prog 100 #[.agg #[.int .i64 a0_0,.int .i64 a0_1,.slice A0_2 l0_2.length c0_2],.int .i64 a1,.int .i64 a2] w fun e w'=>e=.returned (.bool r)∧Below w.heap.size w w':=by
 have hu26:=Try.underlying26;have HR0_2:=za hr0_2;have HC0_2:=za hc0_2;clear hr0_2 hc0_2;have HB:=za (Below.refl w.heap.size w);have H:(if 0≤a1 then (if a1 < (l0_2.length:Int) then (if 0≤a2 then (some ((Go.bits .and .i64 (shr .i64 (rd l0_2 a1) a2) 1) == 1)) else (none)) else (none)) else (none))=some r:=h;clear h;by_cases c4:0≤a1
 ·
  rw [if_pos c4] at H;have c4b0:decide (0≤a1)=true:=decide_eq_true c4;clear c4;by_cases c5:a1 < (l0_2.length:Int)
  ·
   rw [if_pos c5] at H;have c5b0:decide (a1 < (l0_2.length:Int))=true:=decide_eq_true c5;clear c5;by_cases c6:0≤a2
   · rw [if_pos c6] at H;have c6b0:=eq_true c6;have c6b1:decide (0≤a2)=true:=decide_eq_true c6;clear c6;obtain ⟨ji7,hji7⟩:∃ j_:Int,(shr .i64 (rd l0_2 a1) a2)=j_:=⟨_,rfl⟩;(replace H:(some ((Go.bits .and .i64 (ji7) 1) == 1))=some r:=by first|(rw [hji7] at H;exact H)|(simp only [hji7] at H ⊢;exact H));have hji7_:((rd l0_2 a1) / 2 ^ min a2.toNat 64)=ji7:=hji7;have hji7z:a2≤64→((rd l0_2 a1) / 2 ^ a2.toNat)=ji7:=shr_small hji7;obtain rfl:=Option.some.inj H;(go_enter Try.func100,Try.ntmps100);(go_wp2_with (first|((with_reducible refine gate_dst (N:=3) rfl ?_);refine box_event ?hg (N:=3) ?hd (cs:=#[.int .i64 a0_0,.int .i64 a0_1,.slice A0_2 l0_2.length c0_2]) (t:=26) ?hr ?_;(case hd=>rfl);(case hg=>rfl);(case hr=>first|(go_simp;done)|(go_simp;rfl));intro gb101 hg w8 hbox hb;have BK101:=za (hbox);have GW101:=za ((by rw [hg];exact (zC (by apply_rules only [HB.out,zf,zg,zc])):w.heap.size≤gb101));have GE101:=za ((by rw [hg];exact (zC (by apply_rules only [HB.out,zf,zg,zc])):w.heap.size≤gb101));replace HB:=za (zv (by apply_rules only [HB.out,zf,zg,zc]) hb);clear hb hbox hg;have hcz9_0:w8.cell? ⟨gb101,0,none⟩=some (.int .i64 a0_0):=(zi BK101.out 0).trans rfl;have hcz9_1:w8.cell? ⟨gb101,1,none⟩=some (.int .i64 a0_1):=(zi BK101.out 1).trans rfl;have hcz9_2:w8.cell? ⟨gb101,2,none⟩=some (.slice A0_2 l0_2.length c0_2):=(zi BK101.out 2).trans rfl;have hfz9_0:=zk BK101.out 0;have hfz9_1:=zk BK101.out 1;have hfz9_2:=zk BK101.out 2;have p102:0≤(a1:Int):=of_decide_eq_true ‹_›;have q102:a1 < (l0_2.length:Int):=of_decide_eq_true ‹_›;obtain ⟨ad102,e102,hx102_0⟩:=Kd.at_int HR0_2.out a1 p102 q102;cases e102;replace hx102_0:=(HB.out.cell (World.block_lt_of_cell? w _ hx102_0)).trans hx102_0;replace p102:=eq_true p102;replace q102:=eq_true q102)));(go_ret);exact ⟨by first|rfl|(simp [errW_none,errW_some] <;> rfl)|(simp only [← hji7];first|rfl|(simp [errW_none,errW_some] <;> rfl))|(simp [*,errW_none,errW_some] <;> rfl),by apply_rules only [HB.out,zf,zg,zc,zh,GE101.out]⟩
   · rw [if_neg c6] at H;exact absurd H (by simp)
  · rw [if_neg c5] at H;exact absurd H (by simp)
 · rw [if_neg c4] at H;exact absurd H (by simp)
end Go.Proofs.Ytgnmcfoenmfhcaa.Q
end
section
namespace Go.Proofs.Ytgnmcfoenmfhcaa.Q
open Go.RowKit Go.Proofs.YtgnmcfoenmfhcaaW.PrintWords Go.Proofs.YtgnmcfoenmfhcaaW.PrintLast Go.Proofs.YtgnmcfoenmfhcaaW.PrintMore
attribute [local go_sem] max2_int min2_int max_two min_two max_three min_three max_four min_four   -- for this text's walks alone
set_option linter.unusedVariables false
set_option linter.unusedSimpArgs false
end Go.Proofs.Ytgnmcfoenmfhcaa.Q
end
section
namespace Go.Proofs.Ytgnmcfoenmfhcaa.Q
open Go.RowKit Go.Proofs.YtgnmcfoenmfhcaaW.PrintWords Go.Proofs.YtgnmcfoenmfhcaaW.PrintLast Go.Proofs.YtgnmcfoenmfhcaaW.PrintMore
attribute [local go_sem] max2_int min2_int max_two min_two max_three min_three max_four min_four   -- for this text's walks alone
set_option linter.unusedVariables false
set_option linter.unusedSimpArgs false
end Go.Proofs.Ytgnmcfoenmfhcaa.Q
end
section
namespace Go.Proofs.Ytgnmcfoenmfhcaa.Q
open Go.RowKit Go.Proofs.YtgnmcfoenmfhcaaW.PrintWords Go.Proofs.YtgnmcfoenmfhcaaW.PrintLast Go.Proofs.YtgnmcfoenmfhcaaW.PrintMore
attribute [local go_sem] max2_int min2_int max_two min_two max_three min_three max_four min_four   -- for this text's walks alone
set_option linter.unusedVariables false
set_option linter.unusedSimpArgs false
end Go.Proofs.Ytgnmcfoenmfhcaa.Q
end
section
namespace Go.Proofs.Ytgnmcfoenmfhcaa.Q
open Go.RowKit Go.Proofs.YtgnmcfoenmfhcaaW.PrintWords Go.Proofs.YtgnmcfoenmfhcaaW.PrintLast Go.Proofs.YtgnmcfoenmfhcaaW.PrintMore
attribute [local go_sem] max2_int min2_int max_two min_two max_three min_three max_four min_four   -- for this text's walks alone
set_option linter.unusedVariables false
set_option linter.unusedSimpArgs false
end Go.Proofs.Ytgnmcfoenmfhcaa.Q
end
section
namespace Go.Proofs.Ytgnmcfoenmfhcaa.Q
open Go.RowKit Go.Proofs.YtgnmcfoenmfhcaaW.PrintWords Go.Proofs.YtgnmcfoenmfhcaaW.PrintLast Go.Proofs.YtgnmcfoenmfhcaaW.PrintMore
attribute [local go_sem] max2_int min2_int max_two min_two max_three min_three max_four min_four   -- for this text's walks alone
set_option linter.unusedVariables false
set_option linter.unusedSimpArgs false
end Go.Proofs.Ytgnmcfoenmfhcaa.Q
end
section
namespace Go.Proofs.Ytgnmcfoenmfhcaa.Q
open Go.RowKit Go.Proofs.YtgnmcfoenmfhcaaW.PrintWords Go.Proofs.YtgnmcfoenmfhcaaW.PrintLast Go.Proofs.YtgnmcfoenmfhcaaW.PrintMore
attribute [local go_sem] max2_int min2_int max_two min_two max_three min_three max_four min_four   -- for this text's walks alone
set_option linter.unusedVariables false
set_option linter.unusedSimpArgs false
end Go.Proofs.Ytgnmcfoenmfhcaa.Q
end
section
namespace Go.Proofs.Ytgnmcfoenmfhcaa.Q
open Go.RowKit Go.Proofs.YtgnmcfoenmfhcaaW.PrintWords Go.Proofs.YtgnmcfoenmfhcaaW.PrintLast Go.Proofs.YtgnmcfoenmfhcaaW.PrintMore
attribute [local go_sem] max2_int min2_int max_two min_two max_three min_three max_four min_four   -- for this text's walks alone
set_option linter.unusedVariables false
set_option linter.unusedSimpArgs false
end Go.Proofs.Ytgnmcfoenmfhcaa.Q
end
section
namespace Go.Proofs.Ytgnmcfoenmfhcaa.Q
open Go.RowKit Go.Proofs.YtgnmcfoenmfhcaaW.PrintWords Go.Proofs.YtgnmcfoenmfhcaaW.PrintLast Go.Proofs.YtgnmcfoenmfhcaaW.PrintMore
attribute [local go_sem] max2_int min2_int max_two min_two max_three min_three max_four min_four   -- for this text's walks alone
set_option linter.unusedVariables false
set_option linter.unusedSimpArgs false
end Go.Proofs.Ytgnmcfoenmfhcaa.Q
end
section
namespace Go.Proofs.Ytgnmcfoenmfhcaa.LawK
set_option linter.unusedVariables false
open Go.RowKit Go.Proofs.Ytgnmcfoenmfhcaa.Q Go.Proofs.YtgnmcfoenmfhcaaW.PrintWords Go.Proofs.YtgnmcfoenmfhcaaW.PrintLast Go.Proofs.YtgnmcfoenmfhcaaW.PrintMore
open Go.Proofs.YtgnmcfoenmfhcaaL
def iota : Int → Nat → List Int
  | _, 0 => []
  | m, n + 1 => m :: iota (m + 1) n
theorem iota_length : ∀ (m : Int) (n : Nat), (iota m n).length = n
  | _, 0 => rfl
  | m, n + 1 => by rw [iota, List.length_cons, iota_length]
theorem iota_get : ∀ (n : Nat) (m : Int) (i : Nat) (h : i < (iota m n).length), (iota m n)[i] = m + i
  | 0, _, _, h => by simp [iota] at h
  | n + 1, m, 0, _ => by simp [iota]
  | n + 1, m, i + 1, h => by
    have := iota_get n (m + 1) i (by simpa [iota] using h)
    simp only [iota, List.getElem_cons_succ, this]; omega
theorem iota_snoc : ∀ (n : Nat) (m : Int), iota m (n + 1) = iota m n ++ [m + n]
  | 0, m => by simp [iota]
  | n + 1, m => by
    rw [iota, iota_snoc n (m + 1), iota, List.cons_append]
    congr 2
    simp; omega
theorem ends {g : Nat → Option Bool} (h : Ev g true) : ∃ k, g k = some true := h.rounds
end Go.Proofs.Ytgnmcfoenmfhcaa.LawK
end
section
namespace Go.Proofs.Ytgnmcfoenmfhcaa.BoardK
set_option linter.unusedVariables false
open Go.RowKit Go.Proofs.Ytgnmcfoenmfhcaa.Q Go.Proofs.YtgnmcfoenmfhcaaW.PrintWords Go.Proofs.YtgnmcfoenmfhcaaW.PrintLast Go.Proofs.YtgnmcfoenmfhcaaW.PrintMore
open Go.Proofs.YtgnmcfoenmfhcaaL Go.Proofs.Ytgnmcfoenmfhcaa.LawK
def inR (lo hi x : Int) : Bool := decide (lo ≤ x ∧ x ≤ hi)
theorem l1In_f (a b c : Int) : spec_l1In.f a b c = some (inR b c a) := by
  unfold spec_l1In.f inR
  by_cases h : a ≥ b
  · rw [if_pos h]; simp [h]
  · rw [if_neg h]; congr 1; exact (decide_eq_false (by omega)).symm
theorem l1All_l0 {l : List Int} (lo hi : Int) (hl : l.length ≤ 4611686018427387904) : ∀ (d i : Nat), i + d = l.length → Ev (fun k => spec_l1All.l0 k lo hi l (l.length : Int) i) ((l.drop i).all (inR lo hi))
  | 0, i, hi' => by
    refine Ev.step (f := fun _ => some ((l.drop i).all (inR lo hi))) (fun k => ?_) (Ev.now _)
    rw [spec_l1All.l0, if_neg (by omega), List.drop_eq_nil_of_le (by omega)]; rfl
  | d + 1, i, hi' => by
    have h1 : wrap64 ((i : Int) + 1) = ((i + 1 : Nat) : Int) := by rw [w64 (by omega) (by omega)]; rfl
    have hi2 : i < l.length := by omega
    rw [List.drop_eq_getElem_cons hi2, List.all_cons]
    by_cases e : inR lo hi l[i] = true
    · rw [e, Bool.true_and]
      refine Ev.step (fun k => ?_) (l1All_l0 lo hi hl d (i + 1) (by omega))
      rw [spec_l1All.l0, if_pos (by omega), if_pos (by omega), if_pos (by omega), l1In_f, Option.bind_some, rd_lt _ _ hi2, if_pos e, h1]
    · have e' : inR lo hi l[i] = false := by simpa using e
      rw [e', Bool.false_and]
      refine Ev.step (f := fun _ => some false) (fun k => ?_) (Ev.now _)
      rw [spec_l1All.l0, if_pos (by omega), if_pos (by omega), if_pos (by omega), l1In_f, Option.bind_some, rd_lt _ _ hi2, if_neg e]
theorem l1All {l : List Int} (lo hi : Int) (hl : l.length ≤ 4611686018427387904) : Ev (fun k => spec_l1All.f k l lo hi) (l.all (inR lo hi)) := by
  refine Ev.congr (fun k => ?_) (l1All_l0 lo hi hl l.length 0 (by omega))
  unfold spec_l1All.f; rfl
theorem boSide_f (a : Int) : spec_boSide.f a = some (inR 1 6 a) := by unfold spec_boSide.f; rw [l1In_f]; rfl
theorem rowIn_inR {c : Int} : rowIn c = inR 0 (2 ^ c.toNat - 1) := rfl
theorem boGood {l : List Int} (r c : Int) (hl : l.length ≤ 4611686018427387904) : Ev (fun k => spec_boGood.f k r c l) (isBoardB r c l) := by
  unfold spec_boGood.f
  by_cases h1 : 1 ≤ r ∧ r ≤ 6
  · refine Ev.congr (fun k => by rw [boSide_f, Option.bind_some, if_pos (show inR 1 6 r = true from decide_eq_true h1)]) ?_
    by_cases h2 : 1 ≤ c ∧ c ≤ 6
    · refine Ev.congr (fun k => by rw [boSide_f, Option.bind_some, if_pos (show inR 1 6 c = true from decide_eq_true h2)]) ?_
      by_cases h3 : (l.length : Int) = r
      · refine Ev.congr (fun k => by rw [if_pos h3, if_pos (by omega : 0 ≤ c)]) ?_
        have e : wrap64 (shl .i64 1 c - 1) = 2 ^ c.toNat - 1 := by
          obtain ⟨n, rfl⟩ : ∃ n : Nat, c = n := ⟨c.toNat, by omega⟩
          have h4 : 2 ^ n ≤ 2 ^ 6 := Nat.pow_le_pow_right (by decide) (by omega)
          have h5 : 0 < 2 ^ n := Nat.two_pow_pos n
          rw [shl_one n (by omega), w64 (by omega) (by omega), Int.toNat_natCast]; simp
        have eb : isBoardB r c l = l.all (inR 0 (2 ^ c.toNat - 1)) := by
          unfold isBoardB
          rw [decide_eq_true ⟨h1.1, h1.2, h2.1, h2.2, h3⟩, Bool.true_and, rowIn_inR]
        rw [e, eb]
        exact Ev.bind (l1All _ _ hl) (Ev.now _)
      · have eb : isBoardB r c l = false := by unfold isBoardB; rw [decide_eq_false (fun h => h3 h.2.2.2.2), Bool.false_and]
        rw [eb]
        exact Ev.congr (fun k => by rw [if_neg h3]) (Ev.now _)
    · have eb : isBoardB r c l = false := by unfold isBoardB; rw [decide_eq_false (fun h => h2 ⟨h.2.2.1, h.2.2.2.1⟩), Bool.false_and]
      rw [eb]
      exact Ev.congr (fun k => by rw [boSide_f, Option.bind_some, if_neg (by simp [inR, h2])]) (Ev.now _)
  · have eb : isBoardB r c l = false := by unfold isBoardB; rw [decide_eq_false (fun h => h1 ⟨h.1, h.2.1⟩), Bool.false_and]
    rw [eb]
    exact Ev.congr (fun k => by rw [boSide_f, Option.bind_some, if_neg (by simp [inR, h1])]) (Ev.now _)
def cell (l : List Int) (r c : Nat) : Bool := (l.getD r 0).toNat.testBit c
theorem board_of {r c : Int} {l : List Int} (h : isBoardB r c l = true) : ∃ R C : Nat, r = R ∧ c = C ∧ l.length = R ∧ 1 ≤ R ∧ R ≤ 6 ∧ 1 ≤ C ∧ C ≤ 6 ∧ ∀ i (hi : i < l.length), 0 ≤ l[i] ∧ l[i] < 2 ^ C := by
  unfold isBoardB at h
  simp only [Bool.and_eq_true, decide_eq_true_eq, List.all_eq_true] at h
  obtain ⟨⟨h1, h2, h3, h4, h5⟩, h6⟩ := h
  refine ⟨r.toNat, c.toNat, by omega, by omega, by omega, by omega, by omega, by omega, by omega, fun i hi => ?_⟩
  have := h6 l[i] (List.getElem_mem hi)
  unfold rowIn at this
  simp only [decide_eq_true_eq] at this
  omega
theorem two_pow_six {C : Nat} (h : C ≤ 6) : (2 : Int) ^ C ≤ 64 := by
  have : 2 ^ C ≤ 2 ^ 6 := Nat.pow_le_pow_right (by decide) h
  exact_mod_cast this
theorem boHas_f {l : List Int} (r c : Int) {i j : Nat} (hi : i < l.length) (h0 : 0 ≤ l[i]) (h1 : l[i] < 64) (hj : j ≤ 64) : spec_boHas.f r c l i j = some (cell l i j) := by
  unfold spec_boHas.f
  rw [if_pos (by omega), if_pos (by omega), if_pos (by omega), rd_lt _ _ hi]
  obtain ⟨m, hm⟩ : ∃ m : Nat, l[i] = m := ⟨l[i].toNat, by omega⟩
  rw [hm, bit_mod m j hj]
  unfold cell
  rw [gD_lt _ _ hi, hm, Int.toNat_natCast]
  by_cases hb : m.testBit j = true <;> simp [hb]
theorem has_f {l : List Int} (r c : Int) {i j : Nat} (hi : i < l.length) (h0 : 0 ≤ l[i]) (h1 : l[i] < 64) (hj : j ≤ 64) : impl_Board_has.f r c l i j = some (cell l i j) := by
  unfold impl_Board_has.f
  rw [if_pos (by omega), if_pos (by omega), if_pos (by omega), rd_lt _ _ hi]
  obtain ⟨m, hm⟩ : ∃ m : Nat, l[i] = m := ⟨l[i].toNat, by omega⟩
  rw [hm, bit_and m j (by omega) hj]
  unfold cell
  rw [gD_lt _ _ hi, hm, Int.toNat_natCast]
  by_cases hb : m.testBit j = true <;> simp [hb]
end Go.Proofs.Ytgnmcfoenmfhcaa.BoardK
end
section
namespace Go.Proofs.Ytgnmcfoenmfhcaa.Walk
set_option linter.unusedVariables false
open Go.RowKit Go.Proofs.YtgnmcfoenmfhcaaW.PrintWords Go.Proofs.YtgnmcfoenmfhcaaW.PrintLast Go.Proofs.YtgnmcfoenmfhcaaW.PrintMore
open Go.Proofs.YtgnmcfoenmfhcaaL Go.Proofs.Ytgnmcfoenmfhcaa.LawK Go.Proofs.Ytgnmcfoenmfhcaa.BoardK
theorem mem_iota {m : Int} {n : Nat} {x : Int} (h1 : m ≤ x) (h2 : x < m + n) : x ∈ iota m n := by
  have hi : (x - m).toNat < (iota m n).length := by rw [iota_length]; omega
  have := iota_get n m (x - m).toNat hi
  rw [show x = (iota m n)[(x - m).toNat] by rw [this]; omega]
  exact List.getElem_mem hi
def colWays (l : List Int) (r t : Nat) (pre : List Int) (next : Nat → List Int → List (List Int)) (c : Int) : List (List Int) :=
  if c < 0 then next t (pre ++ [c])
  else if cell l r c.toNat && !t.testBit c.toNat then next (t ||| 2 ^ c.toNat) (pre ++ [c]) else []
def waysFrom (l : List Int) (C : Nat) : Nat → Nat → Nat → List Int → List (List Int)
  | 0, _, _, pre => [pre]
  | d + 1, r, t, pre => (iota (-1) (C + 1)).flatMap (colWays l r t pre (waysFrom l C d (r + 1)))
theorem iota_cut : ∀ (j n : Nat) (m : Int), j < n → iota m n = iota m j ++ (m + j) :: iota (m + j + 1) (n - j - 1)
  | 0, n + 1, m, _ => by rw [iota, iota]; simp
  | j + 1, n + 1, m, h => by
    rw [iota, iota, iota_cut j n (m + 1) (by omega), List.cons_append]
    have e1 : m + 1 + (j : Int) = m + ((j + 1 : Nat) : Int) := by omega
    rw [e1, show n + 1 - (j + 1) - 1 = n - j - 1 by omega]
theorem ways_cut (l : List Int) (C d r t : Nat) (pre : List Int) (j : Nat) (hj : j < C + 1) {x : Int} (hx : x = -1 + j) :
    waysFrom l C (d + 1) r t pre = (iota (-1) j).flatMap (colWays l r t pre (waysFrom l C d (r + 1))) ++ (colWays l r t pre (waysFrom l C d (r + 1)) x ++ (iota (x + 1) (C + 1 - j - 1)).flatMap (colWays l r t pre (waysFrom l C d (r + 1)))) := by
  rw [waysFrom, iota_cut j (C + 1) (-1) hj, List.flatMap_append, List.flatMap_cons, hx]
theorem ways_len (l : List Int) (C : Nat) : ∀ (d r t : Nat) (pre : List Int), (waysFrom l C d r t pre).length ≤ (C + 1) ^ d
  | 0, r, t, pre => by simp [waysFrom]
  | d + 1, r, t, pre => by
    have hc : ∀ c, (colWays l r t pre (waysFrom l C d (r + 1)) c).length ≤ (C + 1) ^ d := by
      intro c
      unfold colWays
      split
      · exact ways_len l C d (r + 1) _ _
      · split
        · exact ways_len l C d (r + 1) _ _
        · exact Nat.zero_le _
    have hf : ∀ (n : Nat) (m : Int), ((iota m n).flatMap (colWays l r t pre (waysFrom l C d (r + 1)))).length ≤ n * (C + 1) ^ d := by
      intro n
      induction n with
      | zero => intro m; simp [iota]
      | succ n ih =>
        intro m
        rw [iota, List.flatMap_cons, List.length_append, Nat.succ_mul]
        have h1 := hc m
        have h2 := ih (m + 1)
        omega
    rw [waysFrom, Nat.pow_succ, Nat.mul_comm]
    exact hf (C + 1) (-1)
structure Blks where (b d a p g r : Nat)
structure Blks.Apart (k : Blks) : Prop where
  bd : k.b ≠ k.d
  ba : k.b ≠ k.a
  bp : k.b ≠ k.p
  bg : k.b ≠ k.g
  br : k.b ≠ k.r
  da : k.d ≠ k.a
  dp : k.d ≠ k.p
  dg : k.d ≠ k.g
  dr : k.d ≠ k.r
  ap : k.a ≠ k.p
  ag : k.a ≠ k.g
  ar : k.a ≠ k.r
  pg : k.p ≠ k.g
  pr : k.p ≠ k.r
  gr : k.g ≠ k.r
def Blks.has (k : Blks) (i : Nat) : Prop := i = k.b ∨ i = k.d ∨ i = k.a ∨ i = k.p ∨ i = k.g ∨ i = k.r
structure Still (S : Nat → Prop) (w w' : World) : Prop where
  kept : Kept w w' S
  os : w'.os = w.os
  tape : w'.tape = w.tape
  output : w'.output = w.output
theorem Still.refl (S : Nat → Prop) (w : World) : Still S w w := ⟨Kept.refl _ _, rfl, rfl, rfl⟩
theorem Still.of_below {S : Nat → Prop} {w w' : World} (h : Below w.heap.size w w') : Still S w w' := ⟨Kept.of_below h S, h.os, h.tape, h.output⟩
theorem Still.set {S : Nat → Prop} (w : World) {a : Addr} (h : S a.block) (v : Value) : Still S w (w.setCell a v) := ⟨Kept.setCell (Kept.refl _ _) (.inl h) v, rfl, rfl, rfl⟩
theorem Still.drewN {S : Nat → Prop} (w : World) (n : Nat) : Still S w (w.drewN n) := ⟨Kept.drewN (Kept.refl _ _) n, rfl, rfl, rfl⟩
theorem Still.trans {S : Nat → Prop} {a b c : World} (h : Still S a b) (k : Still S b c) : Still S a c := ⟨h.kept.then_ k.kept (fun _ hk => .inl hk), k.os.trans h.os, k.tape.trans h.tape, k.output.trans h.output⟩
theorem Still.below {S : Nat → Prop} {w0 w w' : World} (h : Below w0.heap.size w0 w) (k : Still S w w') (hS : ∀ i, S i → w0.heap.size ≤ i) : Below w0.heap.size w0 w' :=
  ⟨k.os.trans h.os, k.tape.trans h.tape, k.output.trans h.output, Nat.le_trans h.size k.kept.1, fun i hi => (k.kept.2 i (Nat.lt_of_lt_of_le hi h.size) (fun hs => by have := hS i hs; omega)).trans (h.block i hi)⟩
structure WSt (k : Blks) (Inv : List (List Int) → World → Prop) (RI CI : Int) (n cp : Nat) (l : List Int) (A0 : Option Addr) (c0 : Nat) (F : Value) (vis : List (List Int)) (ps : List Int) (w : World) : Prop where
  cB : w.heap[k.b]? = some (.cells #[.int .i64 RI, .int .i64 CI, .slice A0 l.length c0] 26 (0, 0))
  cD : w.heap[k.d]? = some (.cells #[F] 93 (0, 0))
  cA : Kd.R (Kd.int .i64) 3 w 0 (fun i => i = k.a) (.slice (some ⟨k.a, 0, none⟩) n cp) ps
  cP : w.heap[k.p]? = some (.cells #[.slice (some ⟨k.a, 0, none⟩) n cp] 24 (0, 0))
  cG : w.heap[k.g]? = some (.cells #[.bool true] 4 (0, 0))
  cR : w.heap[k.r]? = some (.cells #[.func (.func 160) #[] #[.pointer (some ⟨k.b, 0, none⟩), .pointer (some ⟨k.d, 0, none⟩), .pointer (some ⟨k.p, 0, none⟩), .pointer (some ⟨k.g, 0, none⟩), .pointer (some ⟨k.r, 0, none⟩)]] 129 (0, 0))
  inv : Inv vis w
section
variable {k : Blks} {Inv : List (List Int) → World → Prop} {RI CI : Int} {n cp : Nat} {l : List Int} {A0 : Option Addr} {c0 : Nat} {F : Value} {vis : List (List Int)} {ps : List Int} {w w' : World}
theorem WSt.below (hI : ∀ vis w w', Inv vis w → Still k.has w w' → Inv vis w') (h : WSt k Inv RI CI n cp l A0 c0 F vis ps w) (hb : Below w.heap.size w w') : WSt k Inv RI CI n cp l A0 c0 F vis ps w' :=
  ⟨blk_below h.cB hb, blk_below h.cD hb, Kd.R_below h.cA hb, blk_below h.cP hb, blk_below h.cG hb, blk_below h.cR hb, hI _ _ _ h.inv (Still.of_below hb)⟩
theorem WSt.drewN (hI : ∀ vis w w', Inv vis w → Still k.has w w' → Inv vis w') (h : WSt k Inv RI CI n cp l A0 c0 F vis ps w) (m : Nat) : WSt k Inv RI CI n cp l A0 c0 F vis ps (w.drewN m) :=
  h.below hI (pw_below_drewN (Below.refl _ _) m)
theorem WSt.setA (hI : ∀ vis w w', Inv vis w → Still k.has w w' → Inv vis w') (hk : k.Apart) (h : WSt k Inv RI CI n cp l A0 c0 F vis ps w) (i c : Int) : WSt k Inv RI CI n cp l A0 c0 F vis (ps.set i.toNat c) (w.setCell ⟨k.a, i.toNat, none⟩ (.int .i64 c)) :=
  ⟨blk_far h.cB hk.ba _, blk_far h.cD hk.da _, Kd.R_putn h.cA i c, blk_far h.cP hk.ap.symm _, blk_far h.cG hk.ag.symm _, blk_far h.cR hk.ar.symm _, hI _ _ _ h.inv (Still.set w (.inr (.inr (.inl rfl))) _)⟩
theorem WSt.setG (hI : ∀ vis w w', Inv vis w → Still k.has w w' → Inv vis w') (hk : k.Apart) (h : WSt k Inv RI CI n cp l A0 c0 F vis ps w) : WSt k Inv RI CI n cp l A0 c0 F vis ps (w.setCell ⟨k.g, 0, none⟩ (.bool true)) :=
  ⟨blk_far h.cB hk.bg _, blk_far h.cD hk.dg _, Kd.R_far h.cA (fun i hi => by rw [hi]; exact hk.ag) _, blk_far h.cP hk.pg _, blk_put h.cG 0 _ rfl, blk_far h.cR hk.gr.symm _, hI _ _ _ h.inv (Still.set w (.inr (.inr (.inr (.inr (.inl rfl))))) _)⟩
end
end Go.Proofs.Ytgnmcfoenmfhcaa.Walk
end
section
namespace Go.Proofs.Ytgnmcfoenmfhcaa.WalkNum
set_option linter.unusedVariables false
open Go.RowKit Go.Proofs.YtgnmcfoenmfhcaaW.PrintWords Go.Proofs.YtgnmcfoenmfhcaaW.PrintLast Go.Proofs.YtgnmcfoenmfhcaaW.PrintMore
open Go.Proofs.YtgnmcfoenmfhcaaL Go.Proofs.Ytgnmcfoenmfhcaa.LawK Go.Proofs.Ytgnmcfoenmfhcaa.BoardK Go.Proofs.Ytgnmcfoenmfhcaa.Walk Go.Proofs.Ytgnmcfoenmfhcaa.Q
theorem run_store_func {P:Program} {w:World} {a:Addr} {m:Mode} (f:Fn) (xs:Array Value) (ys:Array Value):(store a (.func f xs ys) m).run P w=stored P w a (.func f xs ys) m:=run_store P w a _ m rfl
attribute [local go_sem] run_store_func
section
variable (k : Blks) (hk : k.Apart) (Inv : List (List Int) → World → Prop) (hI : ∀ vis w w', Inv vis w → Still k.has w w' → Inv vis w') (R C : Nat) (RI CI : Int) (hRI : RI = R) (hCI : CI = C) (l : List Int) (A0 : Option Addr) (c0 cp : Nat) (hc0 : l.length ≤ c0) (cc1 : Value)
  (hL : ∀ vis w, Inv vis w → Kd.C (Kd.int .i64) w A0 l.length l)
  (hl : l.length = R) (hR : R ≤ 6) (hC : C ≤ 6) (hb : ∀ i (hi : i < l.length), 0 ≤ l[i] ∧ l[i] < 2 ^ C)
  (P : List (List Int) → List Int → Prop) (hdo : ∀ vis ps w, ps.length = R → P vis ps → WSt k Inv RI CI R cp l A0 c0 (.func (.func 143) #[] #[cc1]) vis ps w →
    Calls Try.prog 143 #[.slice (some ⟨k.a, 0, none⟩) R cp, cc1] w fun e w' => e = .returned (.bool true) ∧ WSt k Inv RI CI R cp l A0 c0 (.func (.func 143) #[] #[cc1]) (vis ++ [ps]) ps w')
include hk hI hRI hCI hc0 hL hl hR hC hb hdo
set_option maxHeartbeats 4000000 in
set_option maxRecDepth 100000 in
theorem row_calls:∀ (d r t:Nat) (rI tI:Int),rI=r→tI=t→r + d=R→t < 64→∀ vis ps w,ps.length=R→(∀ a q b,waysFrom l C d r t (ps.take r)=a ++ q :: b→P (vis ++ a) q)→WSt k Inv RI CI R cp l A0 c0 (.func (.func 143) #[] #[cc1]) vis ps w →
  Calls Try.prog 160 #[.int .i64 rI,.int .i64 tI,.pointer (some ⟨k.b,0,none⟩),.pointer (some ⟨k.d,0,none⟩),.pointer (some ⟨k.p,0,none⟩),.pointer (some ⟨k.g,0,none⟩),.pointer (some ⟨k.r,0,none⟩)] w fun e w'=>e=.returned (.tuple #[]) ∧
   ∃ ps',ps'.length=R∧ps'.take r=ps.take r∧WSt k Inv RI CI R cp l A0 c0 (.func (.func 143) #[] #[cc1]) (vis ++ waysFrom l C d r t (ps.take r)) ps' w'
|0,r,t,rI,tI,hr,ht,hrd,ht6,vis,ps,w,hps,hPP,hst=>by
  have hP0:P vis ps:=by have:=hPP [] ps [] (by rw [waysFrom,List.take_of_length_le (by omega)];rfl);rwa [List.append_nil] at this
  have CX:=Lib.hid (fun W (h:Aside0 (WSt k Inv RI CI R cp l A0 c0 (.func (.func 143) #[] #[cc1]) vis ps W))=>hdo vis ps W hps hP0 h.out)
  have MV:=Lib.hid (fun W (h:Aside0 (WSt k Inv RI CI R cp l A0 c0 (.func (.func 143) #[] #[cc1]) (vis ++ [ps]) ps W))=>h.out.setG hI hk)
  have e0:(rI == RI)=true:=beq_iff_eq.mpr (by omega)
  have e1:=za (show ps.take r=ps from List.take_of_length_le (by omega))
  have hz1:w.cell? ⟨k.b,0,none⟩=some (.int .i64 RI):=(zi hst.cB 0).trans rfl
  have hz2:w.cell? ⟨k.d,0,none⟩=some (.func (.func 143) #[] #[cc1]):=(zi hst.cD 0).trans rfl
  have hz3:w.cell? ⟨k.p,0,none⟩=some (.slice (some ⟨k.a,0,none⟩) R cp):=(zi hst.cP 0).trans rfl
  have HS:=za hst
  have HP:=za hps
  have hu24:=Try.underlying26
  clear hdo hst hps hr ht hrd ht6 hRI hCI hk hI hL hl hR hC hb hc0 hPP hP0
  go_enter Try.func160,Try.ntmps160
  go_wp2_with (first|(go_at_call 143;(refine (CX.out _ HS).mono ?_);rintro e w2 ⟨rfl,hs2⟩;have hz4:w2.cell? ⟨k.g,0,none⟩=some (.bool true):=(zi hs2.cG 0).trans rfl;have hf4:=zk hs2.cG 0;have HS2:=za hs2;clear hs2))
  first|go_end0|((try simp only [Exit.inBlock,Exit.then]);refine bodyPost_ret (results_none rfl _ _ _) rfl ?_)
  refine ⟨rfl,ps,HP.out,rfl,?_⟩
  rw [e1.out]
  exact MV.out _ HS2
|d + 1,r,t,rI,tI,hr,ht,hrd,ht6,vis,ps,w,hps,hPP,hst=>by
  have IH:=Lib.hid (fun (t':Nat) (tI':Int) (h2:tI'=(t':Int)) (h3:t' < 64) vis ps W (h4:ps.length=R) (h5:∀ a q b,waysFrom l C d (r + 1) t' (ps.take (r + 1))=a ++ q :: b→P (vis ++ a) q) (h:WSt k Inv RI CI R cp l A0 c0 (.func (.func 143) #[] #[cc1]) vis ps W)=>row_calls d (r + 1) t' (wrap64 (rI + 1)) tI' (by rw [hr,w64 (by omega) (by omega)];rfl) h2 (by omega) h3 vis ps W h4 h5 h)
  have MVB:=Lib.hid (fun vis ps W W' (h:WSt k Inv RI CI R cp l A0 c0 (.func (.func 143) #[] #[cc1]) vis ps W) (hb:Below W.heap.size W W')=>h.below hI hb)
  have MVA:=Lib.hid (fun vis ps W (h:WSt k Inv RI CI R cp l A0 c0 (.func (.func 143) #[] #[cc1]) vis ps W) (i c:Int)=>h.setA hI hk i c)
  have HL:=Lib.hid (fun vis ps W (h:WSt k Inv RI CI R cp l A0 c0 (.func (.func 143) #[] #[cc1]) vis ps W)=>hL vis W h.inv)
  have HASF:=Lib.hid (fun (j:Nat) (hj:j≤64)=>has_f RI CI (l:=l) (i:=r) (j:=j) (by omega) (hb r (by omega)).1 (by have:=(hb r (by omega)).2;have:=two_pow_six hC;omega) hj)
  have e0:(rI == RI)=false:=beq_eq_false_iff_ne.mpr (by omega)
  have z1:w.cell? ⟨k.b,0,none⟩=some (.int .i64 RI):=(zi hst.cB 0).trans rfl
  have HS:=za hst
  have HP:=za hps
  have HR:=za hr
  have HT:=za ht
  have HT6:=za ht6
  have HRD:=za hrd
  have HCI:=za hCI
  have HC0:=za hc0
  have HC6:=za hC
  have HR6:=za hR
  have hu24:=Try.underlying26
  obtain ⟨pre,hpre⟩:∃ pre,pre=ps.take r:=⟨_,rfl⟩
  rw [← hpre] at hPP ⊢
  have HPP:=za hPP
  have HPRE:=za hpre
  have plt:=eq_true (show 0≤rI by omega)
  have plt2:=eq_true (show rI < (R:Int) by omega)
  clear hdo hst hps hr ht hrd ht6 hRI hCI hk hI hL hl hR hC hb hc0 hpre hPP row_calls
  go_enter Try.func160,Try.ntmps160
  go_wp2
  go_loopg [9] (C + 1) (fun kq v9 w'=>∃ (x9:Int),v9=.int .i64 x9∧Aside0 (∃ (j:Nat) (ps':List Int),x9=-1 + j∧j + kq=C + 1∧ps'.length=R∧ps'.take r=pre∧WSt k Inv RI CI R cp l A0 c0 (.func (.func 143) #[] #[cc1]) (vis ++ (iota (-1) j).flatMap (colWays l r t pre (waysFrom l C d (r + 1)))) ps' w'))
  case atStart=>exact ⟨-1,rfl,⟨0,ps,by omega,by omega,HP.out,HPRE.out.symm,by simpa [iota] using HS.out⟩⟩
  case round =>
   clear z1
   obtain ⟨x9,rfl,HX⟩:=hrel
   obtain ⟨j,qs,hx,hj,hql,hqt,hs⟩:=HX.out
   clear HX
   have HX:=za hx
   have HQL:=za hql
   have HQT:=za hqt
   have HS2:=za hs
   have HJ:=za hj
   have z1:wr.cell? ⟨k.b,1,none⟩=some (.int .i64 CI):=(zi hs.cB 1).trans rfl
   have z2:wr.cell? ⟨k.g,0,none⟩=some (.bool true):=(zi hs.cG 0).trans rfl
   have z3:wr.cell? ⟨k.b,0,none⟩=some (.int .i64 RI):=(zi hs.cB 0).trans rfl
   have z4:wr.cell? ⟨k.b,2,none⟩=some (.slice A0 l.length c0):=(zi hs.cB 2).trans rfl
   clear hx hj hql hqt hs
   by_cases c1:x9 < CI
   ·
    have c1b:decide (x9 < CI)=true:=decide_eq_true c1
    cases gk with
   |zero=>exact absurd c1 (by have:=HX.out;have:=HJ.out;have:=HCI.out;omega)
   |succ k1 =>
     have EW:=za (show wrap64 (x9 + 1)=-1 + ((j + 1:Nat):Int) by have:=HX.out;have:=HJ.out;have:=HC6.out;rw [w64 (by omega) (by omega)];omega)
     have EJ:=za (show j + 1 + k1=C + 1 by have:=HJ.out;omega)
     have ES:=za (show (iota (-1) (j + 1)).flatMap (colWays l r t pre (waysFrom l C d (r + 1)))=(iota (-1) j).flatMap (colWays l r t pre (waysFrom l C d (r + 1))) ++ colWays l r t pre (waysFrom l C d (r + 1)) x9 by rw [iota_snoc,List.flatMap_append,HX.out];simp)
     have C1:=za c1
     clear c1
     by_cases c2:0≤x9
     ·
      have c2b:decide (0≤x9)=true:=decide_eq_true c2
      have c2e:=eq_true c2
      obtain ⟨xn,hxn⟩:∃ xn:Nat,x9=xn:=⟨x9.toNat,by omega⟩
      have HXN:=za hxn
      have HX6:=za (show xn < 6 by have:=C1.out;have:=HCI.out;have:=HC6.out;omega)
      have A1:=za (show impl_Board_has.f RI CI l rI x9=some (cell l r xn) by rw [HR.out,hxn];exact HASF.out xn (by have:=HX6.out;omega))
      obtain ⟨sh,hsh⟩:∃ s:Int,shr .i64 tI x9=s:=⟨_,rfl⟩
      have hsh1:(tI / 2 ^ min x9.toNat 64)=sh:=hsh
      have BT:Go.bits .and .i64 sh 1=if t.testBit xn then 1 else 0:=by rw [← hsh,HT.out,hxn];exact bit_and t xn (by have:=HT6.out;omega) (by have:=HX6.out;omega)
      clear c2 hxn
      by_cases c3:cell l r xn=true
      ·
       rw [c3] at A1
       by_cases c4:t.testBit xn=true
       ·
        have c4b:(Go.bits .and .i64 sh 1 == 1)=true:=by rw [BT,if_pos c4];rfl
        have NIL:=za (show colWays l r t pre (waysFrom l C d (r + 1)) x9=[] by have:=HXN.out;unfold colWays;rw [if_neg (by omega),if_neg (by rw [HXN.out];simp [c4])])
        clear c3 c4 BT hsh
        go_wp2_with (first|(go_at_call 100;(refine (impl_Board_has.calls RI CI _ _ l rI x9 true _ ?side1 ?side2 A1.out).mono ?_);(case side1=>exact HL.out _ _ _ HS2.out);(case side2=>exact HC0.out);rintro e w2 ⟨rfl,hb2⟩;have HS3:=za (MVB.out _ _ _ _ HS2.out hb2);clear hb2))
        go_roundg k1
        case measure=>omega
        case rel=>exact ⟨wrap64 (x9 + 1),(by first|rfl|(simp;done)),⟨j + 1,qs,EW.out,EJ.out,HQL.out,HQT.out,by rw [ES.out,NIL.out,List.append_nil];exact HS3.out⟩⟩
       ·
        have c4b:(Go.bits .and .i64 sh 1 == 1)=false:=by rw [BT,if_neg c4];rfl
        have c4f:t.testBit xn=false:=by simpa using c4
        have ONE:=za (show colWays l r t pre (waysFrom l C d (r + 1)) x9=waysFrom l C d (r + 1) (t ||| 2 ^ xn) (pre ++ [x9]) by have:=HXN.out;unfold colWays;rw [if_neg (by omega),HXN.out,Int.toNat_natCast,if_pos (by rw [c3,c4f];rfl)])
        obtain ⟨ji,hji⟩:∃ s:Int,shl .i64 1 x9=s:=⟨_,rfl⟩
        have hji_:(IntKind.i64.wrap (1 * 2 ^ min x9.toNat 64))=ji:=hji
        have hjiu:(IntKind.i64.wrap (2 ^ min x9.toNat 64))=ji:=by have h_:=hji_;rw [Int.one_mul] at h_;exact h_
        have p2x:=Nat.pow_le_pow_right (show 0 < 2 by decide) (show xn≤5 by have:=HX6.out;omega)
        have OR:=za (show Go.bits .or .i64 tI ji=((t ||| 2 ^ xn:Nat):Int) by rw [← hji,HT.out,HXN.out,shl_one xn (by have:=HX6.out;omega)];exact or_nat _ _ (by have:=HT6.out;omega) (by omega))
        have OR6:=za (show t ||| 2 ^ xn < 64 from Nat.or_lt_two_pow (n:=6) HT6.out (by omega))
        clear c3 c4 c4f BT hsh hji p2x
        have HRT:=za (show rI.toNat=r by rw [HR.out];rfl)
        have HPT:=za (show (qs.set rI.toNat x9).take (r + 1)=pre ++ [x9] by have hrl:r < qs.length:=(by have:=HQL.out;have:=HRD.out;omega);rw [HRT.out,List.take_add_one,List.take_set_of_le (Nat.le_refl _),HQT.out];simp [hrl])
        have NXT:=za (show ∀ a q b,waysFrom l C d (r + 1) (t ||| 2 ^ xn) ((qs.set rI.toNat x9).take (r + 1))=a ++ q :: b→P ((vis ++ (iota (-1) j).flatMap (colWays l r t pre (waysFrom l C d (r + 1)))) ++ a) q from fun a q b hq=>by rw [HPT.out,← ONE.out] at hq;rw [List.append_assoc];exact HPP.out _ q (b ++ (iota (x9 + 1) (C + 1 - j - 1)).flatMap (colWays l r t pre (waysFrom l C d (r + 1)))) (by rw [ways_cut l C d r t pre j (by have:=HX.out;have:=C1.out;have:=HCI.out;omega) HX.out,hq,List.append_assoc,List.append_assoc];rfl))
        go_wp2_with (first|(go_at_call 100;(refine (impl_Board_has.calls RI CI _ _ l rI x9 true _ ?side1 ?side2 A1.out).mono ?_);(case side1=>exact HL.out _ _ _ HS2.out);(case side2=>exact HC0.out);rintro e w2 ⟨rfl,hb2⟩;have HS3:=za (MVB.out _ _ _ _ HS2.out hb2);clear hb2;have z5:w2.cell? ⟨k.p,0,none⟩=some (.slice (some ⟨k.a,0,none⟩) R cp):=(zi HS3.out.cP 0).trans rfl;obtain ⟨z6,f6⟩:=Kd.R_celln 0 HS3.out.cA rI (of_eq_true plt) (of_eq_true plt2))|((with_reducible refine gate_store (t:=3) (p:=46) rfl ?_);refine store_event (t:=3) (p:=46) (v:=?vo) (w1:=(w2.setCell ⟨k.a,rI.toNat,none⟩ (.int .i64 x9))) ?hg ?ho ?hn ?hr ?_;(case ho=>rfl);(case hg=>rfl);(case hn=>rfl);(case hr=>first|(go_simp;done)|(go_simp;rfl));intro w4 hw;have HS4:=za (by rw [hw];exact MVA.out _ _ _ HS3.out rI x9:WSt k Inv RI CI R cp l A0 c0 (.func (.func 143) #[] #[cc1]) (vis ++ (iota (-1) j).flatMap (colWays l r t pre (waysFrom l C d (r + 1)))) (qs.set rI.toNat x9) w4);clear hw;have z7:w4.cell? ⟨k.r,0,none⟩=_:=(zi HS4.out.cR 0).trans rfl)|(go_at_call 160;(refine (IH.out (t ||| 2 ^ xn) _ OR.out OR6.out _ (qs.set rI.toNat x9) _ (by rw [List.length_set];exact HQL.out) NXT.out HS4.out).mono ?_);rintro e w5 ⟨rfl,hex⟩;have HE:=za hex;clear hex))
        go_roundg k1
        case measure=>omega
        case rel =>
         obtain ⟨qs2,hl2,ht2,hs5⟩:=HE.out
         have hrt:=HRT.out
         have hrl:r < qs.length:=by have:=HQL.out;have:=HRD.out;omega
         have hpt:=HPT.out
         refine ⟨wrap64 (x9 + 1),(by first|rfl|(simp;done)),⟨j + 1,qs2,EW.out,EJ.out,hl2,?_,?_⟩⟩
         ·
          have h3:=congrArg (List.take r) ht2
          rw [List.take_take,List.take_take,Nat.min_eq_left (by omega),hrt,List.take_set_of_le (Nat.le_refl _),HQT.out] at h3
          exact h3
         ·
          rw [hpt,List.append_assoc] at hs5
          rw [ES.out,ONE.out]
          exact hs5
      ·
       have c3f:cell l r xn=false:=by simpa using c3
       rw [c3f] at A1
       have NIL:=za (show colWays l r t pre (waysFrom l C d (r + 1)) x9=[] by have:=HXN.out;unfold colWays;rw [if_neg (by omega),if_neg (by rw [HXN.out];simp [c3f])])
       clear c3 c3f BT hsh
       go_wp2_with (first|(go_at_call 100;(refine (impl_Board_has.calls RI CI _ _ l rI x9 false _ ?side1 ?side2 A1.out).mono ?_);(case side1=>exact HL.out _ _ _ HS2.out);(case side2=>exact HC0.out);rintro e w2 ⟨rfl,hb2⟩;have HS3:=za (MVB.out _ _ _ _ HS2.out hb2);clear hb2))
       go_roundg k1
       case measure=>omega
       case rel=>exact ⟨wrap64 (x9 + 1),(by first|rfl|(simp;done)),⟨j + 1,qs,EW.out,EJ.out,HQL.out,HQT.out,by rw [ES.out,NIL.out,List.append_nil];exact HS3.out⟩⟩
     ·
      have c2b:decide (0≤x9)=false:=decide_eq_false c2
      have ONE:=za (show colWays l r t pre (waysFrom l C d (r + 1)) x9=waysFrom l C d (r + 1) t (pre ++ [x9]) by unfold colWays;rw [if_pos (by omega)])
      clear c2
      have z5:wr.cell? ⟨k.p,0,none⟩=some (.slice (some ⟨k.a,0,none⟩) R cp):=(zi HS2.out.cP 0).trans rfl
      obtain ⟨z6,f6⟩:=Kd.R_celln 0 HS2.out.cA rI (of_eq_true plt) (of_eq_true plt2)
      have HRT:=za (show rI.toNat=r by rw [HR.out];rfl)
      have HPT:=za (show (qs.set rI.toNat x9).take (r + 1)=pre ++ [x9] by have hrl:r < qs.length:=(by have:=HQL.out;have:=HRD.out;omega);rw [HRT.out,List.take_add_one,List.take_set_of_le (Nat.le_refl _),HQT.out];simp [hrl])
      have NXT:=za (show ∀ a q b,waysFrom l C d (r + 1) t ((qs.set rI.toNat x9).take (r + 1))=a ++ q :: b→P ((vis ++ (iota (-1) j).flatMap (colWays l r t pre (waysFrom l C d (r + 1)))) ++ a) q from fun a q b hq=>by rw [HPT.out,← ONE.out] at hq;rw [List.append_assoc];exact HPP.out _ q (b ++ (iota (x9 + 1) (C + 1 - j - 1)).flatMap (colWays l r t pre (waysFrom l C d (r + 1)))) (by rw [ways_cut l C d r t pre j (by have:=HX.out;have:=C1.out;have:=HCI.out;omega) HX.out,hq,List.append_assoc,List.append_assoc];rfl))
      go_wp2_with (first|((with_reducible refine gate_store (t:=3) (p:=46) rfl ?_);refine store_event (t:=3) (p:=46) (v:=?vo) (w1:=(wr.setCell ⟨k.a,rI.toNat,none⟩ (.int .i64 x9))) ?hg ?ho ?hn ?hr ?_;(case ho=>rfl);(case hg=>rfl);(case hn=>rfl);(case hr=>first|(go_simp;done)|(go_simp;rfl));intro w4 hw;have HS4:=za (by rw [hw];exact MVA.out _ _ _ HS2.out rI x9:WSt k Inv RI CI R cp l A0 c0 (.func (.func 143) #[] #[cc1]) (vis ++ (iota (-1) j).flatMap (colWays l r t pre (waysFrom l C d (r + 1)))) (qs.set rI.toNat x9) w4);clear hw;have z7:w4.cell? ⟨k.r,0,none⟩=_:=(zi HS4.out.cR 0).trans rfl)|(go_at_call 160;(refine (IH.out t _ HT.out HT6.out _ (qs.set rI.toNat x9) _ (by rw [List.length_set];exact HQL.out) NXT.out HS4.out).mono ?_);rintro e w5 ⟨rfl,hex⟩;have HE:=za hex;clear hex))
      go_roundg k1
      case measure=>omega
      case rel =>
       obtain ⟨qs2,hl2,ht2,hs5⟩:=HE.out
       have hrt:=HRT.out
       have hrl:r < qs.length:=by have:=HQL.out;have:=HRD.out;omega
       have hpt:=HPT.out
       refine ⟨wrap64 (x9 + 1),(by first|rfl|(simp;done)),⟨j + 1,qs2,EW.out,EJ.out,hl2,?_,?_⟩⟩
       ·
        have h3:=congrArg (List.take r) ht2
        rw [List.take_take,List.take_take,Nat.min_eq_left (by omega),hrt,List.take_set_of_le (Nat.le_refl _),HQT.out] at h3
        exact h3
       ·
        rw [hpt,List.append_assoc] at hs5
        rw [ES.out,ONE.out]
        exact hs5
   ·
    have c1b:decide (x9 < CI)=false:=decide_eq_false c1
    have FIN:=za (show j=C + 1 by have:=HX.out;have:=HJ.out;have:=HCI.out;omega)
    clear c1
    go_wp2
    first|go_end0|((try simp only [Exit.inBlock,Exit.then]);refine bodyPost_ret (results_none rfl _ _ _) rfl ?_)
    exact ⟨rfl,qs,HQL.out,HQT.out,by have:=HS2.out;rw [FIN.out] at this;exact this⟩
end
section
variable (Inv : (Nat → Prop) → List (List Int) → World → Prop) (hI : ∀ S vis w w', Inv S vis w → Still S w w' → Inv S vis w') (R C : Nat) (RI CI : Int) (hRI : RI = R) (hCI : CI = C) (l : List Int) (A0 : Option Addr) (c0 : Nat) (hc0 : l.length ≤ c0) (cc1 : Value)
  (hL : ∀ S vis w, Inv S vis w → Kd.C (Kd.int .i64) w A0 l.length l)
  (hl : l.length = R) (h1R : 1 ≤ R) (hR : R ≤ 6) (hC : C ≤ 6) (hb : ∀ i (hi : i < l.length), 0 ≤ l[i] ∧ l[i] < 2 ^ C) (w0 : World)
  (h0 : ∀ S w, (∀ i, S i → w0.heap.size ≤ i) → Below w0.heap.size w0 w → Inv S [] w)
  (hdo : ∀ S vis ps w a cp, (∀ i, S i → w0.heap.size ≤ i) → (∀ i, S i → i < w.heap.size) → ps.length = R → (∃ b, waysFrom l C R 0 0 [] = vis ++ ps :: b) → S a → Kd.C (Kd.int .i64) w (some ⟨a, 0, none⟩) R ps → R ≤ cp → Inv S vis w →
    Calls Try.prog 143 #[.slice (some ⟨a, 0, none⟩) R cp, cc1] w fun e w' => e = .returned (.bool true) ∧ Inv S (vis ++ [ps]) w' ∧ (∀ i, S i → i < w.heap.size → w'.heap[i]? = w.heap[i]?))
include hI hRI hCI hc0 hL hl h1R hR hC hb h0 hdo
set_option maxHeartbeats 4000000 in
set_option maxRecDepth 100000 in
theorem walk_calls:Calls Try.prog 142 #[.agg #[.int .i64 RI,.int .i64 CI,.slice A0 l.length c0],.func (.func 143) #[] #[cc1]] w0 fun e w'=>e=.returned (.tuple #[])∧∃ S,(∀ i,S i→w0.heap.size≤i)∧Inv S (waysFrom l C R 0 0 []) w':=by
 have KEY:∀ (k:Blks) (cp:Nat) W,k.Apart→(∀ i,k.has i→w0.heap.size≤i)→R≤cp→WSt k (Inv k.has) RI CI R cp l A0 c0 (.func (.func 143) #[] #[cc1]) [] (List.replicate R 0) W →
   Calls Try.prog 160 #[.int .i64 0,.int .i64 0,.pointer (some ⟨k.b,0,none⟩),.pointer (some ⟨k.d,0,none⟩),.pointer (some ⟨k.p,0,none⟩),.pointer (some ⟨k.g,0,none⟩),.pointer (some ⟨k.r,0,none⟩)] W fun e w'=>e=.returned (.tuple #[])∧∃ S,(∀ i,S i→w0.heap.size≤i)∧Inv S (waysFrom l C R 0 0 []) w':=by
  intro k cp W hk hS hcp hst
  have:=row_calls k hk (Inv k.has) (hI k.has) R C RI CI hRI hCI l A0 c0 cp hc0 cc1 (hL k.has) hl hR hC hb (fun vis q=>∃ b,waysFrom l C R 0 0 []=vis ++ q :: b) (fun vis ps w hps hmem hs=>by
   obtain ⟨_,_,hC'⟩:=zD hs.cA
   rw [hps] at hC'
   have hlt:k.a < w.heap.size:=by obtain ⟨cells,hc⟩:=Kd.R_typed hs.cA k.a rfl;exact blk_lt hc
   have hSlt:∀ i,k.has i→i < w.heap.size:=by
    rintro i (rfl|rfl|rfl|rfl|rfl|rfl)
    ·
     exact blk_lt hs.cB
    ·
     exact blk_lt hs.cD
    ·
     exact hlt
    ·
     exact blk_lt hs.cP
    ·
     exact blk_lt hs.cG
    ·
     exact blk_lt hs.cR
   refine (hdo k.has vis ps w k.a cp hS hSlt hps hmem (.inr (.inr (.inl rfl))) hC' hcp hs.inv).mono ?_
   rintro e w' ⟨rfl,hi,hkeep⟩
   refine ⟨rfl,(hkeep _ (.inl rfl) (blk_lt hs.cB)).trans hs.cB,(hkeep _ (.inr (.inl rfl)) (blk_lt hs.cD)).trans hs.cD,Kd.R_step hs.cA (fun i hi _=>by subst hi;exact hkeep _ (.inr (.inr (.inl rfl))) hlt),(hkeep _ (.inr (.inr (.inr (.inl rfl)))) (blk_lt hs.cP)).trans hs.cP,(hkeep _ (.inr (.inr (.inr (.inr (.inl rfl))))) (blk_lt hs.cG)).trans hs.cG,(hkeep _ (.inr (.inr (.inr (.inr (.inr rfl))))) (blk_lt hs.cR)).trans hs.cR,hi⟩)
   R 0 0 0 0 rfl rfl (by omega) (by omega) [] (List.replicate R 0) W (by simp) (fun a q b hq=>⟨b,by simpa using hq⟩) hst
  refine this.mono ?_
  rintro e w' ⟨rfl,ps',_,_,hw⟩
  exact ⟨rfl,k.has,hS,by simpa using hw.inv⟩
 have KX:=Lib.hid KEY;have H0:=Lib.hid h0;have hu24:=Try.underlying26;have p1:=za (show 0≤RI by omega);have p2:=za (show RI.toNat * 8≤281474976710656 by omega);have p3:=za (show RI.toNat=R by omega);have p4:=za h1R;clear KEY h0 hdo hb hC hR hl hL hc0 hCI hRI hI h1R;go_enter Try.func142,Try.ntmps142
 go_wp2_with (first
 |((with_reducible refine gate_dst (N:=2) rfl ?_);refine box_event ?hg (N:=2) ?hd (cs:=#[.int .i64 RI,.int .i64 CI,.slice A0 l.length c0]) (t:=26) ?hr ?_;(case hd=>rfl);(case hg=>rfl);(case hr=>first|(go_simp;done)|(go_simp;rfl));intro gb hg w1 hbox hb;have G1:=za hg;have K1:=za hbox;have B1:=za hb;clear hg hbox hb;have z1:w1.cell? ⟨gb,0,none⟩=some (.int .i64 RI):=(zi K1.out 0).trans rfl)
 |((with_reducible refine gate_dst (N:=3) rfl ?_);refine box_event ?hg (N:=3) ?hd (cs:=#[.func (.func 143) #[] #[cc1]]) (t:=93) ?hr ?_;(case hd=>rfl);(case hg=>rfl);(case hr=>first|(go_simp;done)|(go_simp;rfl));intro gd hg w2 hbox hb;have G2:=za hg;have K2:=za hbox;have B2:=za hb;clear hg hbox hb;have z2:w2.cell? ⟨gb,0,none⟩=some (.int .i64 RI):=(zi (zz K1.out B2.out) 0).trans rfl)
 |((with_reducible refine gate_dst (N:=9) rfl ?_);refine Kd.R_make (Kd.int .i64) (w0:=w2) w2.heap.size 3 rfl (N:=9) rfl 24 _ _ rfl RI rfl rfl Try.underlying24 (.int .i64 0) 8 info3 rfl (by decide) (by omega) 0 (ok:=fun _=>True) (okp:=fun _=>True) rfl (fun _ hk=>hk) trivial p1.out p2.out (Below.refl _ _) (Nat.le_refl _) ?_;intro v3 w3 ho3 hb hg_ hnew_;clear hg_ hnew_;rw [p3.out] at ho3;obtain ⟨ga,cp,hv3,hga,hga2,cells3,hc3⟩:=Kd.R_form ho3 (by rw [List.length_replicate];exact p4.out);rw [List.length_replicate] at hv3;subst hv3;have G3:=za (And.intro hga hga2);have K3:=za hc3;clear hga hga2 hc3;have B3:=za hb;have O3:=za ho3;clear hb ho3)
 |((with_reducible refine gate_dst (N:=4) rfl ?_);refine box_event ?hg (N:=4) ?hd (cs:=#[.slice none 0 0]) (t:=24) ?hr ?_;(case hd=>rfl);(case hg=>rfl);(case hr=>first|(go_simp;done)|(go_simp;rfl));intro gp hg w4 hbox hb;have G4:=za hg;have K4:=za hbox;have B4:=za hb;clear hg hbox hb)
 |((with_reducible refine gate_dst (N:=5) rfl ?_);refine box_event ?hg (N:=5) ?hd (cs:=#[.bool false]) (t:=4) ?hr ?_;(case hd=>rfl);(case hg=>rfl);(case hr=>first|(go_simp;done)|(go_simp;rfl));intro gg hg w5 hbox hb;have G5:=za hg;have K5:=za hbox;have B5:=za hb;clear hg hbox hb;have y1:w5.cell? ⟨gp,0,none⟩=some (.slice none 0 0):=(zi (zz K4.out B5.out) 0).trans rfl;have f1:w5.frozen? ⟨gp,0,none⟩=false:=zk (zz K4.out B5.out) 0)
 |((with_reducible refine gate_store (t:=24) (p:=4) rfl ?_);refine store_event (t:=24) (p:=4) (v:=?vo) (w1:=(w5.setCell ⟨gp,0,none⟩ (.slice (some ⟨ga,0,none⟩) R cp))) ?hg ?ho ?hn ?hr ?_;(case ho=>rfl);(case hg=>rfl);(case hn=>rfl);(case hr=>first|(go_simp;done)|(go_simp;rfl));intro w6 hw;have E6:=za hw;clear hw;have N65:=za (show gg ≠ gp by rw [G5.out];exact Nat.ne_of_gt (blk_lt K4.out));have K56:=za (show w6.heap[gg]?=some (.cells #[.bool false] 4 (0,0)) by rw [E6.out];exact blk_far K5.out N65.out _);have y2:w6.cell? ⟨gg,0,none⟩=some (.bool false):=(zi K56.out 0).trans rfl;have f2:w6.frozen? ⟨gg,0,none⟩=false:=zk K56.out 0)
 |((with_reducible refine gate_dst (N:=6) rfl ?_);refine box_event ?hg (N:=6) ?hd (cs:=#[.nilFunc]) (t:=129) ?hr ?_;(case hd=>rfl);(case hg=>rfl);(case hr=>first|(go_simp;done)|(go_simp;rfl));intro gr hg w8 hbox hb;have G8:=za hg;have K8:=za hbox;have B8:=za hb;clear hg hbox hb;have y3:w8.cell? ⟨gr,0,none⟩=some .nilFunc:=(zi K8.out 0).trans rfl;have f3:w8.frozen? ⟨gr,0,none⟩=false:=zk K8.out 0)
 |(go_at_call 160;(refine (KX.out ⟨gb,gd,ga,gp,gg,gr⟩ cp _ ?sa ?ss ?sc ?sw).mono ?_);(case sa=>(have o1:=blk_lt K1.out;have o2:=G2.out;have o3:=blk_lt K2.out;have o4:=G3.out;have o5:=G4.out;have o6:=blk_lt K4.out;have o7:=G5.out;have o8:=blk_lt K5.out;have o9:w6.heap.size=w5.heap.size:=(by rw [E6.out];simp [World.setCell]);have o10:(w6.setCell ⟨gg,0,none⟩ (.bool true)).heap.size=w6.heap.size:=(by simp [World.setCell]);have o11:=G8.out;have o12:=G1.out;constructor <;> (try simp only []) <;> omega));(case ss=>(have o1:=blk_lt K1.out;have o2:=G2.out;have o3:=blk_lt K2.out;have o4:=G3.out;have o5:=G4.out;have o6:=blk_lt K4.out;have o7:=G5.out;have o8:=blk_lt K5.out;have o9:w6.heap.size=w5.heap.size:=(by rw [E6.out];simp [World.setCell]);have o10:(w6.setCell ⟨gg,0,none⟩ (.bool true)).heap.size=w6.heap.size:=(by simp [World.setCell]);have o11:=G8.out;have o12:=G1.out;rintro i (rfl|rfl|rfl|rfl|rfl|rfl) <;> (try simp only []) <;> omega));(case sc=>exact (zD O3.out).2.1);(case sw=>(have o1:=blk_lt K1.out;have o2:=G2.out;have o3:=blk_lt K2.out;have o4:=G3.out;have o5:=G4.out;have o6:=blk_lt K4.out;have o7:=G5.out;have o8:=blk_lt K5.out;have o9:w6.heap.size=w5.heap.size:=(by rw [E6.out];simp [World.setCell]);have o10:(w6.setCell ⟨gg,0,none⟩ (.bool true)).heap.size=w6.heap.size:=(by simp [World.setCell]);have o11:=G8.out;have o12:=G1.out;have q1:=zz (zz (zz (zz K1.out B2.out) B3.out) B4.out) B5.out;have q2:=zz (zz (zz K2.out B3.out) B4.out) B5.out;have q3:=Kd.R_below (Kd.R_below (zp (Kd.R_lower (Kd.R_tight rfl O3.out) (Nat.zero_le _)) (fun i hi=>(by simpa [Value.ownBlock] using hi:i=ga))) B4.out) B5.out;have q4:=zz K4.out B5.out;have e1:gb ≠ gp:=(by omega);have e2:gd ≠ gp:=(by omega);have e3:ga ≠ gp:=(by omega);have e4:gb ≠ gg:=(by omega);have e5:gd ≠ gg:=(by omega);have e6:ga ≠ gg:=(by omega);have e7:gp ≠ gg:=(by omega);have e8:gb ≠ gr:=(by omega);have e9:gd ≠ gr:=(by omega);have e10:ga ≠ gr:=(by omega);have e11:gp ≠ gr:=(by omega);have e12:gg ≠ gr:=(by omega);have b5:Below w0.heap.size w0 w5:=(((B1.out.trans (B2.out.mono (by omega))).trans (B3.out.mono (by omega))).trans (B4.out.mono (by omega))).trans (B5.out.mono (by omega));have b7:Below w0.heap.size w0 (w6.setCell ⟨gg,0,none⟩ (.bool true)):=(by refine Below.setCell ?_ (by (try simp only []);omega) _;rw [E6.out];exact Below.setCell b5 (by (try simp only []);omega) _);have b9:Below w0.heap.size w0 (w8.setCell ⟨gr,0,none⟩ (.func (.func 160) #[] #[.pointer (some ⟨gb,0,none⟩),.pointer (some ⟨gd,0,none⟩),.pointer (some ⟨gp,0,none⟩),.pointer (some ⟨gg,0,none⟩),.pointer (some ⟨gr,0,none⟩)])):=(by exact Below.setCell (b7.trans (B8.out.mono (by omega))) (by (try simp only []);omega) _);exact ⟨(by refine blk_far (zz ?_ B8.out) e8 _;rw [E6.out];exact blk_far (blk_far q1 e1 _) e4 _),(by refine blk_far (zz ?_ B8.out) e9 _;rw [E6.out];exact blk_far (blk_far q2 e2 _) e5 _),(by refine zn (Kd.R_below ?_ B8.out) (fun i hi=>(by rw [hi];exact e10)) _;rw [E6.out];exact zn (zn q3 (fun i hi=>(by rw [hi];exact e3)) _) (fun i hi=>(by rw [hi];exact e6)) _),(by refine blk_far (zz ?_ B8.out) e11 _;rw [E6.out];exact blk_far (blk_put q4 0 _ rfl) e7 _),(by refine blk_far (zz ?_ B8.out) e12 _;rw [E6.out];exact blk_put (blk_far K5.out e7.symm _) 0 _ rfl),(by exact blk_put K8.out 0 _ rfl),H0.out _ _ (by rintro i (rfl|rfl|rfl|rfl|rfl|rfl) <;> (try simp only []) <;> omega) b9⟩));rintro e w10 ⟨rfl,hfin⟩))
 (first|go_end0|((try simp only [Exit.inBlock,Exit.then]);refine bodyPost_ret (results_none rfl _ _ _) rfl ?_));exact ⟨rfl,hfin⟩
end
end Go.Proofs.Ytgnmcfoenmfhcaa.WalkNum
end
