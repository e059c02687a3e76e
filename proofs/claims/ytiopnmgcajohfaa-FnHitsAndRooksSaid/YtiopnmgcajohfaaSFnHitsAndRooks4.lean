/- Texts of this claim put together (4): words, what the functions compute, and plain facts. No conditions. -/
import Derived.Test.YtiopnmgcajohfaaProg
import Derived.Below
import Derived.Deep.Draws
import Derived.Deep.AppendLies
import Derived.Maps.AppendAt
import Derived.OwnWalk
import Derived.Laws.BytesArg
import Derived.Laws.MakeOwn
import Derived.Laws.OwnMore
import Derived.Deep.OwnRows
import Derived.Tactics
import Derived.Lib.ConvBytes
import Derived.Laws.Slices
import Derived.WalkKit
import Derived.KernelRfl
import Derived.RowKit3
import Derived.Deep.LoopGhost
import Derived.Deep.QuietTactic
import Derived.BigQuiet
import Derived.WideLaws
import Derived.Deep.DeepCutAuto
import Derived.Deep.CutBlock
import Derived.Deep.RegionHeld3
import Derived.Laws.Rows
import Derived.Lib.AppendStr
import Derived.ArgAppend
import Derived.Laws.IdiomCopy
import Derived.OrdersHeld
import Derived.Laws.BitsLemmas
import Derived.RowKit
import Derived.Test.YtiopnmgcajohfaaSFnHitsAndRooks3
import Derived.Outline
import Derived.Lib.Hide
import Derived.Test.YtiopnmgcajohfaaSFnHitsAndRooks0
section
namespace Go.Proofs.Ytiopnmgcajohfaa.Q
open Go.RowKit Go.Proofs.YtiopnmgcajohfaaW.PrintWords Go.Proofs.YtiopnmgcajohfaaW.PrintLast Go.Proofs.YtiopnmgcajohfaaW.PrintMore
attribute [local go_sem] max2_int min2_int max_two min_two max_three min_three max_four min_four   -- for this text's walks alone
set_option linter.unusedVariables false
set_option linter.unusedSimpArgs false
def errW:Option Int→Value
|none=>.nilIface
|some c=>.iface 0 (.int .i64 c)
theorem errW_none:errW none=.nilIface:=rfl
theorem errW_some (c:Int):errW (some c)=.iface 0 (.int .i64 c):=rfl
theorem info3:(Try.prog.info? 3).map (fun i=>(i.zero,i.size,i.bytes))=some (some (.int .i64 0),1,8):=by kernel_rfl
theorem info28:(Try.prog.info? 28).map (fun i=>(i.zero,i.size,i.bytes))=some (some (.slice none 0 0),1,24):=by kernel_rfl
def rd_L1 (xs:List (List Int)) (i:Int):(List Int):=xs.getD i.toNat ([]:List Int)
theorem at_L1 {w:World} {A:Option Addr} {n:Nat} {xs:List (List Int)} (h:Kd.C (Kd.slice 3 (Kd.int .i64)) w A n xs) (i:Int) (h0:0≤i) (h1:i < n):∃ ad A0 c0,A=some ad∧w.cell? (ad.add i.toNat)=some (.slice A0 (rd_L1 xs i).length c0)∧(rd_L1 xs i).length≤c0∧(Kd.int .i64).C w A0 (rd_L1 xs i).length (rd_L1 xs i):=by
 obtain ⟨ad,c,e,_,hK,hc0⟩:=Kd.C_get h ([]:List Int) i h0 h1;have hc:∀ j u,c[j]?=some u→w.cell? (ad.add (i.toNat * 1 + j))=some u:=hc0;obtain ⟨A0,c0,rfl,l0,g0⟩:=hK;exact ⟨ad,A0,c0,e,by have hq:=hc 0 _ rfl;rwa [Nat.mul_one,Nat.add_zero] at hq,l0,g0⟩
end Go.Proofs.Ytiopnmgcajohfaa.Q
end
section
namespace Go.Proofs.Ytiopnmgcajohfaa.Q
open Go.RowKit Go.Proofs.YtiopnmgcajohfaaW.PrintWords Go.Proofs.YtiopnmgcajohfaaW.PrintLast Go.Proofs.YtiopnmgcajohfaaW.PrintMore
attribute [local go_sem] max2_int min2_int max_two min_two max_three min_three max_four min_four   -- for this text's walks alone
set_option linter.unusedVariables false
set_option linter.unusedSimpArgs false
def laws_big.f (l0:List Int) (l1:List Int):Option (Bool):=if (l0.length:Int) > 1048576 then (some true) else (some (decide ((l1.length:Int) > (wrap64 (1048576 - (l0.length:Int))))))
set_option maxHeartbeats 8000000 in
set_option maxRecDepth 100000 in
theorem laws_big.calls (A0:Option Addr) (c0:Nat) (l0:List Int) (A1:Option Addr) (c1:Nat) (l1:List Int) (r:Bool) (w:World) (hr0:Kd.C (Kd.int .u8) w A0 l0.length l0) (hc0:l0.length≤c0) (hr1:Kd.C (Kd.int .u8) w A1 l1.length l1) (hc1:l1.length≤c1) (h:laws_big.f l0 l1=some r) :
  Calls Try.prog 32 #[.slice A0 l0.length c0,.slice A1 l1.length c1] w fun e w'=>e=.returned (.bool r)∧Drawn0 w w':=by
 have HR0:=za hr0;have HC0:=za hc0;clear hr0 hc0;have HR1:=za hr1;have HC1:=za hc1;clear hr1 hc1;have H:(if (l0.length:Int) > 1048576 then (some true) else (some (decide ((l1.length:Int) > (wrap64 (1048576 - (l0.length:Int)))))))=some r:=h;clear h;by_cases c3:(l0.length:Int) > 1048576
 · rw [if_pos c3] at H;have c3b0:decide (1048576 < (l0.length:Int))=true:=decide_eq_true c3;have c3b1:decide (1048576 < l0.length)=true:=decide_eq_true (by omega);clear c3;obtain rfl:=Option.some.inj H;(go_enter Try.func32,Try.ntmps32);(go_wp2);(go_ret);exact ⟨by first|rfl|(simp;done)|(simp [*];done),by repeat (first|exact Drawn0.refl _|apply Drawn0.step)⟩
 · rw [if_neg c3] at H;have c3b0:decide (1048576 < (l0.length:Int))=false:=decide_eq_false c3;have c3b1:decide (1048576 < l0.length)=false:=decide_eq_false (by omega);clear c3;obtain rfl:=Option.some.inj H;(go_enter Try.func32,Try.ntmps32);(go_wp2);(go_ret);exact ⟨by first|rfl|(simp;done)|(simp [*];done),by repeat (first|exact Drawn0.refl _|apply Drawn0.step)⟩
end Go.Proofs.Ytiopnmgcajohfaa.Q
end
section
namespace Go.Proofs.Ytiopnmgcajohfaa.Q
open Go.RowKit Go.Proofs.YtiopnmgcajohfaaW.PrintWords Go.Proofs.YtiopnmgcajohfaaW.PrintLast Go.Proofs.YtiopnmgcajohfaaW.PrintMore
attribute [local go_sem] max2_int min2_int max_two min_two max_three min_three max_four min_four   -- for this text's walks alone
set_option linter.unusedVariables false
set_option linter.unusedSimpArgs false
def laws_kSame.l0:Nat→List Int→List Int→Int→Int→Option (Bool)
|0,_,_,_,_=>none
|k + 1,x0,x1,x12,x13=>if x13 < x12 then (if 0≤x13 then (if x13 < (x0.length:Int) then (if x13 < (x1.length:Int) then (if (rd x0 x13)=(rd x1 x13) then (laws_kSame.l0 k x0 x1 x12 (wrap64 (x13 + 1))) else (some false)) else (none)) else (none)) else (none)) else (some true)
def laws_kSame.f (k:Nat) (l0:List Int) (l1:List Int):Option (Bool):=if (l0.length:Int)=(l1.length:Int) then (laws_kSame.l0 k l0 l1 (l0.length:Int) 0) else (some false)
set_option maxHeartbeats 8000000 in
set_option maxRecDepth 100000 in
theorem laws_kSame.calls (k:Nat) (A0:Option Addr) (c0:Nat) (l0:List Int) (A1:Option Addr) (c1:Nat) (l1:List Int) (r:Bool) (w:World) (hr0:Kd.C (Kd.int .i64) w A0 l0.length l0) (hc0:l0.length≤c0) (hr1:Kd.C (Kd.int .i64) w A1 l1.length l1) (hc1:l1.length≤c1) (h:laws_kSame.f k l0 l1=some r) :
  Calls Try.prog 35 #[.slice A0 l0.length c0,.slice A1 l1.length c1] w fun e w'=>e=.returned (.bool r)∧Drawn0 w w':=by
 have HR0:=za hr0;have HC0:=za hc0;clear hr0 hc0;have HR1:=za hr1;have HC1:=za hc1;clear hr1 hc1;have H:(if (l0.length:Int)=(l1.length:Int) then (laws_kSame.l0 k l0 l1 (l0.length:Int) 0) else (some false))=some r:=h;clear h;by_cases c3:(l0.length:Int)=(l1.length:Int)
 ·
  rw [if_pos c3] at H;have c3b0:((l0.length:Int) == (l1.length:Int))=true:=beq_iff_eq.mpr c3;have c3b1:((l0.length:Int) != (l1.length:Int))=false:=bne_eq_false_iff_eq.mpr c3;(have c3b2:(l0.length == l1.length)=true:=by first|simpa using c3|(simp at c3 ⊢;omega));clear c3;have H':=za H;clear H;(go_enter Try.func35,Try.ntmps35);(go_wp2);(repeat (go_quiet (fail);try go_wp2));(go_loopg [13] k (fun kq v13 w'=>∃ (x13_1:Int),v13=.int .i64 x13_1∧Aside0 (laws_kSame.l0 kq l0 l1 (l0.length:Int) x13_1=some r)∧Aside0 (kq≤k)∧Drawn0 w w'));case atStart=>exact ⟨(0),(by first|rfl|(simp;done)|(simp [*];done)),H',⟨Nat.le_refl _⟩,by repeat (first|exact Drawn0.refl _|apply Drawn0.step)⟩
  case round =>
   clear H';(try clear c1);(try clear p2);(try clear c3);(try clear c3b0);(try clear c3b1);(try clear c3b2);obtain ⟨x13_1,rfl,HA,HK1,⟨m1,rfl⟩⟩:=hrel
   cases gk with
  |zero=>exact absurd HA.out (by simp [laws_kSame.l0])
  |succ k1 =>
    have H:=HA.out;clear HA;simp only [laws_kSame.l0] at H;by_cases c4:x13_1 < (l0.length:Int)
    ·
     rw [if_pos c4] at H;have c4b0:decide (x13_1 < (l0.length:Int))=true:=decide_eq_true c4;clear c4;by_cases c5:0≤x13_1
     ·
      rw [if_pos c5] at H;have c5b0:decide (0≤x13_1)=true:=decide_eq_true c5;clear c5;by_cases c6:x13_1 < (l0.length:Int)
      ·
       rw [if_pos c6] at H;have c6b0:decide (x13_1 < (l0.length:Int))=true:=decide_eq_true c6;clear c6;by_cases c7:x13_1 < (l1.length:Int)
       ·
        rw [if_pos c7] at H;have c7b0:decide (x13_1 < (l1.length:Int))=true:=decide_eq_true c7;clear c7;by_cases c8:(rd l0 x13_1)=(rd l1 x13_1)
        · rw [if_pos c8] at H;have c8b0:((rd l0 x13_1) == (rd l1 x13_1))=true:=beq_iff_eq.mpr c8;have c8b1:((rd l0 x13_1) != (rd l1 x13_1))=false:=bne_eq_false_iff_eq.mpr c8;clear c8;have H':=za H;clear H;have p101:0≤(x13_1:Int):=of_decide_eq_true ‹_›;have q101:x13_1 < (l0.length:Int):=of_decide_eq_true ‹_›;obtain ⟨ad101,e101,hx101_0⟩:=Kd.at_int HR0.out x13_1 p101 q101;cases e101;replace p101:=eq_true p101;replace q101:=eq_true q101;have p102:0≤(x13_1:Int):=of_decide_eq_true ‹_›;have q102:x13_1 < (l1.length:Int):=of_decide_eq_true ‹_›;obtain ⟨ad102,e102,hx102_0⟩:=Kd.at_int HR1.out x13_1 p102 q102;cases e102;replace p102:=eq_true p102;replace q102:=eq_true q102;(go_wp2);(repeat (go_quiet (fail);try go_wp2));(go_roundg k1);(case measure=>have:=HK1.out;omega);case rel=>exact ⟨(wrap64 (x13_1 + 1)),(by first|rfl|(simp;done)|(simp [*];done)),H',⟨by have:=HK1.out;omega⟩,by repeat (first|exact Drawn0.refl _|apply Drawn0.step)⟩
        · rw [if_neg c8] at H;have c8b0:((rd l0 x13_1) == (rd l1 x13_1))=false:=beq_eq_false_iff_ne.mpr c8;have c8b1:((rd l0 x13_1) != (rd l1 x13_1))=true:=bne_iff_ne.mpr c8;obtain rfl:=Option.some.inj H;have p101:0≤(x13_1:Int):=of_decide_eq_true ‹_›;have q101:x13_1 < (l0.length:Int):=of_decide_eq_true ‹_›;obtain ⟨ad101,e101,hx101_0⟩:=Kd.at_int HR0.out x13_1 p101 q101;cases e101;replace p101:=eq_true p101;replace q101:=eq_true q101;have p102:0≤(x13_1:Int):=of_decide_eq_true ‹_›;have q102:x13_1 < (l1.length:Int):=of_decide_eq_true ‹_›;obtain ⟨ad102,e102,hx102_0⟩:=Kd.at_int HR1.out x13_1 p102 q102;cases e102;replace p102:=eq_true p102;replace q102:=eq_true q102;(go_wp2);(repeat (go_quiet (fail);try go_wp2));(go_ret);exact ⟨by first|rfl|(simp;done)|(simp [*];done),by repeat (first|exact Drawn0.refl _|apply Drawn0.step)⟩
       · rw [if_neg c7] at H;exact absurd H (by simp)
      · rw [if_neg c6] at H;exact absurd H (by simp)
     · rw [if_neg c5] at H;exact absurd H (by simp)
    · rw [if_neg c4] at H;have c4b0:decide (x13_1 < (l0.length:Int))=false:=decide_eq_false c4;clear c4;obtain rfl:=Option.some.inj H;(go_wp2);(repeat (go_quiet (fail);try go_wp2));(go_ret);exact ⟨by first|rfl|(simp;done)|(simp [*];done),by repeat (first|exact Drawn0.refl _|apply Drawn0.step)⟩
 · rw [if_neg c3] at H;have c3b0:((l0.length:Int) == (l1.length:Int))=false:=beq_eq_false_iff_ne.mpr c3;have c3b1:((l0.length:Int) != (l1.length:Int))=true:=bne_iff_ne.mpr c3;(have c3b2:(l0.length == l1.length)=false:=by first|simpa using c3|(simp at c3 ⊢;omega));obtain rfl:=Option.some.inj H;(go_enter Try.func35,Try.ntmps35);(go_wp2);(repeat (go_quiet (fail);try go_wp2));(go_ret);exact ⟨by first|rfl|(simp;done)|(simp [*];done),by repeat (first|exact Drawn0.refl _|apply Drawn0.step)⟩
end Go.Proofs.Ytiopnmgcajohfaa.Q
end
section
namespace Go.Proofs.Ytiopnmgcajohfaa.Q
open Go.RowKit Go.Proofs.YtiopnmgcajohfaaW.PrintWords Go.Proofs.YtiopnmgcajohfaaW.PrintLast Go.Proofs.YtiopnmgcajohfaaW.PrintMore
attribute [local go_sem] max2_int min2_int max_two min_two max_three min_three max_four min_four   -- for this text's walks alone
set_option linter.unusedVariables false
set_option linter.unusedSimpArgs false
def impl_within.f (a0:Int) (a1:Int) (a2:Int):Option (Bool):=if a1≤a0 then (some (decide (a0≤a2))) else (some false)
set_option maxHeartbeats 8000000 in
set_option maxRecDepth 100000 in
theorem impl_within.calls (a0:Int) (a1:Int) (a2:Int) (r:Bool) (w:World) (h:impl_within.f a0 a1 a2=some r) :
  Calls Try.prog 79 #[.int .i64 a0,.int .i64 a1,.int .i64 a2] w fun e w'=>e=.returned (.bool r)∧Drawn0 w w':=by
 have H:(if a1≤a0 then (some (decide (a0≤a2))) else (some false))=some r:=h;clear h;by_cases c4:a1≤a0
 · rw [if_pos c4] at H;have c4b0:decide (a1≤a0)=true:=decide_eq_true c4;clear c4;obtain rfl:=Option.some.inj H;(go_enter Try.func79,Try.ntmps79);(go_wp2);(go_ret);exact ⟨by first|rfl|(simp;done)|(simp [*];done),by repeat (first|exact Drawn0.refl _|apply Drawn0.step)⟩
 · rw [if_neg c4] at H;have c4b0:decide (a1≤a0)=false:=decide_eq_false c4;clear c4;obtain rfl:=Option.some.inj H;(go_enter Try.func79,Try.ntmps79);(go_wp2);(go_ret);exact ⟨by first|rfl|(simp;done)|(simp [*];done),by repeat (first|exact Drawn0.refl _|apply Drawn0.step)⟩
end Go.Proofs.Ytiopnmgcajohfaa.Q
end
section
namespace Go.Proofs.Ytiopnmgcajohfaa.Q
open Go.RowKit Go.Proofs.YtiopnmgcajohfaaW.PrintWords Go.Proofs.YtiopnmgcajohfaaW.PrintLast Go.Proofs.YtiopnmgcajohfaaW.PrintMore
attribute [local go_sem] max2_int min2_int max_two min_two max_three min_three max_four min_four   -- for this text's walks alone
set_option linter.unusedVariables false
set_option linter.unusedSimpArgs false
def impl_isSide.f (a0:Int):Option (Bool):=(impl_within.f a0 1 6).bind fun t101=>(some t101)
set_option maxHeartbeats 8000000 in
set_option maxRecDepth 100000 in
theorem impl_isSide.calls (a0:Int) (r:Bool) (w:World) (h:impl_isSide.f a0=some r) :
  Calls Try.prog 104 #[.int .i64 a0] w fun e w'=>e=.returned (.bool r)∧Drawn0 w w':=by
 have H:((impl_within.f a0 1 6).bind fun t101=>(some t101))=some r:=h;clear h;obtain ⟨t101,A2,H⟩:=bindAside H;(try dsimp only at H);obtain rfl:=Option.some.inj H;(go_enter Try.func104,Try.ntmps104);(go_wp2_with (first|((with_reducible refine zq (f:=79) rfl ?_);refine zr (some 4) rfl rfl Try.func79 (by kernel_rfl) rfl #[.int .i64 a0,.int .i64 1,.int .i64 6] rfl (by first|rfl|simp only [z3_,z4_,z5_];try rfl) ?_;(with_reducible refine (impl_within.calls a0 1 6 t101 _ A2.out).mono ?_);rintro e w' ⟨rfl,⟨nd,rfl⟩⟩;refine ⟨_,rfl,?_⟩)));(go_ret);exact ⟨by first|rfl|(simp;done)|(simp [*];done),by repeat (first|exact Drawn0.refl _|apply Drawn0.step)⟩
end Go.Proofs.Ytiopnmgcajohfaa.Q
end
section
namespace Go.Proofs.YtiopnmgcajohfaaL
set_option linter.unusedVariables false
open Go.RowKit Go.Proofs.YtiopnmgcajohfaaW.PrintWords Go.Proofs.YtiopnmgcajohfaaW.PrintLast Go.Proofs.YtiopnmgcajohfaaW.PrintMore
theorem w64 {n : Int} (h1 : -9223372036854775808 ≤ n) (h2 : n ≤ 9223372036854775807) : wrap64 n = n := by
  unfold wrap64; omega
theorem wrap_i64' (n : Int) : IntKind.i64.wrap n = wrap64 n := by rw [IntKind.wrap_i64]; unfold wrap64; rfl
theorem wraps_i64 (n : Int) (h₀ : 0 ≤ n) (h₁ : n < 2 ^ 63) : IntKind.i64.wrap n = n := by rw [IntKind.wrap_i64]; omega
theorem and_nat (a b : Nat) (ha : a < 2 ^ 63) (hb : b < 2 ^ 63) : Go.bits .and .i64 (a : Int) (b : Int) = ((a &&& b : Nat) : Int) :=
  (bits_nat .i64 63 (by decide) wraps_i64 a b ha hb).1
theorem or_nat (a b : Nat) (ha : a < 2 ^ 63) (hb : b < 2 ^ 63) : Go.bits .or .i64 (a : Int) (b : Int) = ((a ||| b : Nat) : Int) :=
  (bits_nat .i64 63 (by decide) wraps_i64 a b ha hb).2
theorem shl_one (n : Nat) (h : n ≤ 62) : shl .i64 1 (n : Int) = ((2 ^ n : Nat) : Int) := by
  unfold shl
  have h1 : min (n : Int).toNat (IntKind.i64.bits) = n := by
    have : IntKind.i64.bits = 64 := rfl
    rw [this, Int.toNat_natCast]; omega
  rw [h1, Int.one_mul]
  have h2 : (2 : Nat) ^ n ≤ 2 ^ 62 := Nat.pow_le_pow_right (by decide) h
  have h3 : ((2 : Int) ^ n) = ((2 ^ n : Nat) : Int) := by simp
  rw [h3]
  refine wraps_i64 _ (Int.natCast_nonneg _) ?_
  have : (2 : Nat) ^ n < 2 ^ 63 := Nat.lt_of_le_of_lt h2 (by decide)
  exact_mod_cast this
theorem shr_nat (x n : Nat) (h : n ≤ 64) : shr .i64 (x : Int) (n : Int) = ((x >>> n : Nat) : Int) := by
  unfold shr
  have h1 : min (n : Int).toNat (IntKind.i64.bits) = n := by
    have : IntKind.i64.bits = 64 := rfl
    rw [this, Int.toNat_natCast]; omega
  rw [h1, Nat.shiftRight_eq_div_pow]
  have h3 : ((2 : Int) ^ n) = ((2 ^ n : Nat) : Int) := by simp
  rw [h3]; rfl
theorem bit_and (x n : Nat) (hx : x < 2 ^ 63) (h : n ≤ 64) : Go.bits .and .i64 (shr .i64 (x : Int) (n : Int)) 1 = if x.testBit n then 1 else 0 := by
  rw [shr_nat x n h]
  have hs : x >>> n < 2 ^ 63 := Nat.lt_of_le_of_lt (by rw [Nat.shiftRight_eq_div_pow]; exact Nat.div_le_self _ _) hx
  have := and_nat (x >>> n) 1 hs (by decide)
  rw [show ((1 : Nat) : Int) = 1 from rfl] at this
  rw [this, Nat.and_one_is_mod]
  rw [Nat.testBit, Nat.one_and_eq_mod_two]
  rcases Nat.mod_two_eq_zero_or_one (x >>> n) with h | h <;> simp [h]
theorem bit_mod (x n : Nat) (h : n ≤ 64) : Int.tmod (shr .i64 (x : Int) (n : Int)) 2 = if x.testBit n then 1 else 0 := by
  rw [shr_nat x n h]
  rw [Nat.testBit, Nat.one_and_eq_mod_two]
  rw [Int.tmod_eq_emod_of_nonneg (Int.natCast_nonneg _), show ((x >>> n : Nat) : Int) % 2 = ((x >>> n % 2 : Nat) : Int) from rfl]
  rcases Nat.mod_two_eq_zero_or_one (x >>> n) with h | h <;> simp [h]
theorem gD_lt {α : Type} (xs : List α) (d : α) {i : Nat} (h : i < xs.length) : xs.getD i d = xs[i] := by simp [List.getD, h]
theorem rd_nat (xs : List Int) (i : Nat) : rd xs (i : Int) = xs.getD i 0 := by unfold rd; rw [Int.toNat_natCast]
theorem rd_lt (xs : List Int) (i : Nat) (h : i < xs.length) : rd xs (i : Int) = xs[i] := by
  rw [rd_nat]; simp [List.getD, h]
theorem tmod_nat (a b : Nat) : Int.tmod (a : Int) (b : Int) = ((a % b : Nat) : Int) := by
  rw [Int.tmod_eq_emod_of_nonneg (Int.natCast_nonneg _)]; rfl
end Go.Proofs.YtiopnmgcajohfaaL
end
section
namespace Go.Proofs.Ytiopnmgcajohfaa.Q
open Go.RowKit Go.Proofs.YtiopnmgcajohfaaW.PrintWords Go.Proofs.YtiopnmgcajohfaaW.PrintLast Go.Proofs.YtiopnmgcajohfaaW.PrintMore
open Go.Proofs.YtiopnmgcajohfaaL
set_option linter.unusedVariables false
def rowIn (c : Int) (m : Int) : Bool := decide (0 ≤ m ∧ m ≤ 2 ^ c.toNat - 1)
def isBoardB (r c : Int) (l : List Int) : Bool := decide (1 ≤ r ∧ r ≤ 6 ∧ 1 ≤ c ∧ c ≤ 6 ∧ (l.length : Int) = r) && l.all (rowIn c)
theorem within_f (a b c : Int) : impl_within.f a b c = some (decide (b ≤ a ∧ a ≤ c)) := by
  unfold impl_within.f
  by_cases h : b ≤ a
  · rw [if_pos h]; simp [h]
  · rw [if_neg h]; simp [h]
theorem isSide_f (a : Int) : impl_isSide.f a = some (decide (1 ≤ a ∧ a ≤ 6)) := by
  unfold impl_isSide.f; rw [within_f]; rfl
set_option maxHeartbeats 1000000 in
theorem isBoard1 (m c : Int) (B : Nat) (w : World) (hc : w.cell? ⟨B, 1, none⟩ = some (.int .i64 c)) (h1 : 1 ≤ c) (h6 : c ≤ 6) :
    Calls Try.prog 148 #[.int .i64 m, .pointer (some ⟨B, 0, none⟩)] w fun e w' => e = .returned (.bool (!rowIn c m)) ∧ Drawn0 w w' := by
  have key : ∀ x : Int, x = 2 ^ c.toNat - 1 → Aside0 (impl_within.f m 0 x = some (rowIn c m)) := fun x hx => ⟨by rw [hx]; exact within_f m 0 _⟩
  obtain rfl | rfl | rfl | rfl | rfl | rfl : c = 1 ∨ c = 2 ∨ c = 3 ∨ c = 4 ∨ c = 5 ∨ c = 6 := by omega
  all_goals
    have K := key _ rfl
    clear key
    generalize rowIn _ m = rr at K ⊢
    simp only [Int.reduceToNat, Int.reducePow, Int.reduceSub] at K
    go_enter Try.func148, Try.ntmps148
    go_wp2_with (first | (go_at_call 79; (refine (impl_within.calls m 0 _ rr _ K.out).mono ?_); rintro e w' ⟨rfl, ⟨nd, rfl⟩⟩))
    go_ret
    exact ⟨rfl, by repeat (first | exact Drawn0.refl _ | apply Drawn0.step)⟩
def idxB (c : Int) : List Int → Int → Int
  | [], _ => -1
  | x :: t, i => if rowIn c x = true then idxB c t (i + 1) else i
theorem idxB_neg (c : Int) : ∀ (l : List Int) (i : Int), 0 ≤ i → decide (0 ≤ idxB c l i) = !l.all (rowIn c)
  | [], _, _ => rfl
  | x :: t, i, h => by
    rw [idxB, List.all_cons]
    by_cases hx : rowIn c x = true
    · rw [if_pos hx, idxB_neg c t (i + 1) (by omega), hx, Bool.true_and]
    · rw [if_neg hx]; simp [hx, h]
set_option maxHeartbeats 1000000 in
theorem isBoardIndex (A0 : Option Addr) (c0 : Nat) (l0 : List Int) (c : Int) (B : Nat) (w : World) (hr0 : Kd.C (Kd.int .i64) w A0 l0.length l0) (hc0 : l0.length ≤ c0) (hlen : l0.length ≤ 6)
    (hc : w.cell? ⟨B, 1, none⟩ = some (.int .i64 c)) (h1 : 1 ≤ c) (h6 : c ≤ 6) :
    Calls Try.prog 154 #[.slice A0 l0.length c0, .func (.func 148) #[] #[.pointer (some ⟨B, 0, none⟩)]] w fun e w' => e = .returned (.int .i64 (idxB c l0 0)) ∧ Drawn0 w w' := by
  have HR0 := Aside0.mk hr0
  have HC0 := Aside0.mk hc0
  have HL := Aside0.mk hlen
  have HC := Aside0.mk hc
  have H1 := Aside0.mk h1
  have H6 := Aside0.mk h6
  clear hr0 hc0 hlen hc h1 h6
  obtain ⟨r, hr⟩ : ∃ r, r = idxB c l0 0 := ⟨_, rfl⟩
  rw [← hr]
  have HR := Aside0.mk hr
  clear hr
  go_enter Try.func154, Try.ntmps154
  go_wp2
  go_loopg [8] l0.length (fun kq v8 w' => ∃ (x8_1 : Int), v8 = .int .i64 x8_1 ∧ Aside0 (∃ i : Nat, x8_1 = i ∧ i + kq = l0.length ∧ idxB c (l0.drop i) i = r) ∧ Drawn0 w w')
  case atStart => exact ⟨(0), rfl, ⟨0, rfl, by omega, by rw [HR.out]; rfl⟩, by repeat (first | exact Drawn0.refl _ | apply Drawn0.step)⟩
  case round =>
    obtain ⟨x8_1, rfl, HI, ⟨m1, rfl⟩⟩ := hrel
    by_cases c3 : x8_1 < (l0.length : Int)
    · have c4b0 : decide (0 ≤ x8_1) = true := decide_eq_true (by obtain ⟨i, h, _⟩ := HI.out; omega)
      have c3b0 : decide (x8_1 < (l0.length : Int)) = true := decide_eq_true c3
      cases gk with
      | zero => exact absurd HI.out (by rintro ⟨i, h, h', _⟩; omega)
      | succ k1 =>
        clear c3
        have p101 : 0 ≤ (x8_1 : Int) := of_decide_eq_true (by first | (with_reducible assumption) | assumption)
        have q101 : x8_1 < (l0.length : Int) := of_decide_eq_true (by first | (with_reducible assumption) | assumption)
        have HX : Aside0 (∃ i : Nat, x8_1 = i ∧ i + k1 + 1 = l0.length ∧ (if rowIn c (rd l0 x8_1) = true then idxB c (l0.drop (i + 1)) (i + 1) else i) = r) := ⟨by
          obtain ⟨i, h, h', h3⟩ := HI.out
          refine ⟨i, h, by omega, ?_⟩
          rw [List.drop_eq_getElem_cons (by omega), idxB] at h3
          rw [h, rd_lt _ _ (by omega)]
          exact h3⟩
        clear HI
        obtain ⟨ad101, e101, hx101_0⟩ := Kd.at_int HR0.out x8_1 p101 q101
        cases e101
        replace p101 := eq_true p101
        replace q101 := eq_true q101
        by_cases cr : rowIn c (rd l0 x8_1) = true
        · have HB : Aside0 ((!rowIn c (rd l0 x8_1)) = false) := ⟨by rw [cr]; rfl⟩
          have HX2 : Aside0 (∃ i : Nat, wrap64 (x8_1 + 1) = i ∧ i + k1 = l0.length ∧ idxB c (l0.drop i) i = r) := ⟨by
            obtain ⟨i, h, h', h3⟩ := HX.out
            rw [if_pos cr] at h3
            have := HL.out
            refine ⟨i + 1, by rw [w64 (by omega) (by omega)]; omega, by omega, h3⟩⟩
          clear HX cr
          have CC : ∀ W : World, (∃ q, W = w.drewN q) → Calls Try.prog 148 #[.int .i64 (rd l0 x8_1), .pointer (some ⟨B, 0, none⟩)] W fun e w' => e = .returned (.bool false) ∧ Drawn0 W w' := by
            rintro W ⟨q, rfl⟩
            have := isBoard1 (rd l0 x8_1) c B (w.drewN q) HC.out H1.out H6.out
            rw [HB.out] at this
            exact this
          have CX := Lib.hid CC
          clear CC
          go_wp2_with (first | (go_at_call 148; (refine (CX.out _ ⟨_, rfl⟩).mono ?_); rintro e w' ⟨rfl, ⟨nd, rfl⟩⟩))
          go_roundg k1
          case measure => omega
          case rel => exact ⟨(wrap64 (x8_1 + 1)), (by first | rfl | (simp; done) | (simp [*]; done)), HX2, by repeat (first | exact Drawn0.refl _ | apply Drawn0.step)⟩
        · have HB : Aside0 ((!rowIn c (rd l0 x8_1)) = true) := ⟨by simp [cr]⟩
          have HX2 : Aside0 (x8_1 = r) := ⟨by
            obtain ⟨i, h, h', h3⟩ := HX.out
            rw [if_neg cr] at h3
            omega⟩
          clear HX cr
          have CC : ∀ W : World, (∃ q, W = w.drewN q) → Calls Try.prog 148 #[.int .i64 (rd l0 x8_1), .pointer (some ⟨B, 0, none⟩)] W fun e w' => e = .returned (.bool true) ∧ Drawn0 W w' := by
            rintro W ⟨q, rfl⟩
            have := isBoard1 (rd l0 x8_1) c B (w.drewN q) HC.out H1.out H6.out
            rw [HB.out] at this
            exact this
          have CX := Lib.hid CC
          clear CC
          go_wp2_with (first | (go_at_call 148; (refine (CX.out _ ⟨_, rfl⟩).mono ?_); rintro e w' ⟨rfl, ⟨nd, rfl⟩⟩))
          go_ret
          exact ⟨by rw [HX2.out]; rfl, by repeat (first | exact Drawn0.refl _ | apply Drawn0.step)⟩
    · have c3b0 : decide (x8_1 < (l0.length : Int)) = false := decide_eq_false c3
      have HX2 : Aside0 (-1 = r) := ⟨by
        obtain ⟨i, h, h', h3⟩ := HI.out
        rw [List.drop_eq_nil_of_le (by omega), idxB] at h3
        exact h3⟩
      clear c3 HI
      go_wp2
      go_ret
      exact ⟨by rw [HX2.out]; rfl, by repeat (first | exact Drawn0.refl _ | apply Drawn0.step)⟩
theorem isBoardContains (A0 : Option Addr) (c0 : Nat) (l0 : List Int) (c : Int) (B : Nat) (w : World) (hr0 : Kd.C (Kd.int .i64) w A0 l0.length l0) (hc0 : l0.length ≤ c0) (hlen : l0.length ≤ 6)
    (hc : w.cell? ⟨B, 1, none⟩ = some (.int .i64 c)) (h1 : 1 ≤ c) (h6 : c ≤ 6) :
    Calls Try.prog 147 #[.slice A0 l0.length c0, .func (.func 148) #[] #[.pointer (some ⟨B, 0, none⟩)]] w fun e w' => e = .returned (.bool (!l0.all (rowIn c))) ∧ Drawn0 w w' := by
  have C := isBoardIndex A0 c0 l0 c B w hr0 hc0 hlen hc h1 h6
  have N := Aside0.mk (idxB_neg c l0 0 (Int.le_refl _))
  have CX := Lib.hid C
  clear C hr0 hc0 hlen hc h1 h6
  rw [← N.out]
  clear N
  go_enter Try.func147, Try.ntmps147
  go_wp2_with (first | (go_at_call 154; (refine CX.out.mono ?_); rintro e w' ⟨rfl, ⟨nd, rfl⟩⟩))
  go_ret
  exact ⟨by first | rfl | (simp; done), by repeat (first | exact Drawn0.refl _ | apply Drawn0.step)⟩
def impl_IsBoard.f (a0_0 : Int) (a0_1 : Int) (l0_2 : List Int) : Option (Bool) := some (isBoardB a0_0 a0_1 l0_2)
set_option maxHeartbeats 1000000 in
theorem impl_IsBoard.calls (a0_0 : Int) (a0_1 : Int) (A0_2 : Option Addr) (c0_2 : Nat) (l0_2 : List Int) (r : Bool) (w : World) (hr0_2 : Kd.C (Kd.int .i64) w A0_2 l0_2.length l0_2) (hc0_2 : l0_2.length ≤ c0_2) (h : impl_IsBoard.f a0_0 a0_1 l0_2 = some r) :
    Calls Try.prog 117 #[.agg #[.int .i64 a0_0, .int .i64 a0_1, .slice A0_2 l0_2.length c0_2]] w fun e w' => e = .returned (.bool r) ∧ Below w.heap.size w w' := by
  have hB := Option.some.inj h
  clear h
  unfold isBoardB at hB
  have s1 := Aside0.mk (isSide_f a0_0)
  have s2 := Aside0.mk (isSide_f a0_1)
  by_cases h1 : 1 ≤ a0_0 ∧ a0_0 ≤ 6
  · rw [decide_eq_true h1] at s1
    by_cases h2 : 1 ≤ a0_1 ∧ a0_1 ≤ 6
    · rw [decide_eq_true h2] at s2
      by_cases h3 : (l0_2.length : Int) = a0_0
      · have e : r = l0_2.all (rowIn a0_1) := by rw [← hB, decide_eq_true ⟨h1.1, h1.2, h2.1, h2.2, h3⟩, Bool.true_and]
        have t1 : ((l0_2.length : Int) != a0_0) = false := bne_eq_false_iff_eq.mpr h3
        have C : ∀ W : World, Kd.C (Kd.int .i64) W A0_2 l0_2.length l0_2 → W.cell? ⟨w.heap.size, 1, none⟩ = some (.int .i64 a0_1) → Calls Try.prog 147 #[.slice A0_2 l0_2.length c0_2, .func (.func 148) #[] #[.pointer (some ⟨w.heap.size, 0, none⟩)]] W fun e w' => e = .returned (.bool (!r)) ∧ Drawn0 W w' := by
          intro W hW hcell
          rw [e]
          exact isBoardContains A0_2 c0_2 l0_2 a0_1 w.heap.size W hW hc0_2 (by omega) hcell h2.1 h2.2
        have CX := Lib.hid C
        have HR := Aside0.mk hr0_2
        clear C hr0_2 hc0_2 h1 h2 h3 e hB
        go_enter Try.func117, Try.ntmps117
        go_wp2_with (first | (go_at_call 104; (with_reducible refine (impl_isSide.calls a0_0 true _ s1.out).mono ?_); rintro e w' ⟨rfl, ⟨nd, rfl⟩⟩) | (go_at_call 104; (with_reducible refine (impl_isSide.calls a0_1 true _ s2.out).mono ?_); rintro e w' ⟨rfl, ⟨nd, rfl⟩⟩) | (go_at_call 147; (refine (CX.out _ ?side1 ?side2).mono ?_); (case side1 => repeat (first | exact HR.out | (with_reducible refine Kd.C_alloc ?_ _) | (with_reducible refine Kd.C_drewN ?_ _) | (with_reducible refine Kd.C_drew ?_))); (case side2 => first | rfl | (simp; done)); rintro e w' ⟨rfl, ⟨nd, rfl⟩⟩))
        go_ret
        exact ⟨by first | rfl | (simp; done), by repeat (first | exact Below.refl _ _ | apply below_alloc | apply pw_below_drewN | apply below_drew1)⟩
      · have e : r = false := by rw [← hB, decide_eq_false (fun hh => h3 hh.2.2.2.2), Bool.false_and]
        have t1 : ((l0_2.length : Int) != a0_0) = true := bne_iff_ne.mpr h3
        subst e
        clear hr0_2 hc0_2 h1 h2 h3 hB
        go_enter Try.func117, Try.ntmps117
        go_wp2_with (first | (go_at_call 104; (with_reducible refine (impl_isSide.calls a0_0 true _ s1.out).mono ?_); rintro e w' ⟨rfl, ⟨nd, rfl⟩⟩) | (go_at_call 104; (with_reducible refine (impl_isSide.calls a0_1 true _ s2.out).mono ?_); rintro e w' ⟨rfl, ⟨nd, rfl⟩⟩))
        go_ret
        exact ⟨by first | rfl | (simp; done), by repeat (first | exact Below.refl _ _ | apply below_alloc | apply pw_below_drewN | apply below_drew1)⟩
    · rw [decide_eq_false h2] at s2
      have e : r = false := by rw [← hB, decide_eq_false (fun hh => h2 ⟨hh.2.2.1, hh.2.2.2.1⟩), Bool.false_and]
      subst e
      clear hr0_2 hc0_2 h1 h2 hB
      go_enter Try.func117, Try.ntmps117
      go_wp2_with (first | (go_at_call 104; (with_reducible refine (impl_isSide.calls a0_0 true _ s1.out).mono ?_); rintro e w' ⟨rfl, ⟨nd, rfl⟩⟩) | (go_at_call 104; (with_reducible refine (impl_isSide.calls a0_1 false _ s2.out).mono ?_); rintro e w' ⟨rfl, ⟨nd, rfl⟩⟩))
      go_ret
      exact ⟨by first | rfl | (simp; done), by repeat (first | exact Below.refl _ _ | apply below_alloc | apply pw_below_drewN | apply below_drew1)⟩
  · rw [decide_eq_false h1] at s1
    have e : r = false := by rw [← hB, decide_eq_false (fun hh => h1 ⟨hh.1, hh.2.1⟩), Bool.false_and]
    subst e
    clear hr0_2 hc0_2 h1 hB s2
    go_enter Try.func117, Try.ntmps117
    go_wp2_with (first | (go_at_call 104; (with_reducible refine (impl_isSide.calls a0_0 false _ s1.out).mono ?_); rintro e w' ⟨rfl, ⟨nd, rfl⟩⟩))
    go_ret
    exact ⟨by first | rfl | (simp; done), by repeat (first | exact Below.refl _ _ | apply below_alloc | apply pw_below_drewN | apply below_drew1)⟩
end Go.Proofs.Ytiopnmgcajohfaa.Q
end
section
namespace Go.Proofs.Ytiopnmgcajohfaa.Q
open Go.RowKit Go.Proofs.YtiopnmgcajohfaaW.PrintWords Go.Proofs.YtiopnmgcajohfaaW.PrintLast Go.Proofs.YtiopnmgcajohfaaW.PrintMore
attribute [local go_sem] max2_int min2_int max_two min_two max_three min_three max_four min_four   -- for this text's walks alone
set_option linter.unusedVariables false
set_option linter.unusedSimpArgs false
def impl_isSquare.f (a0_0:Int) (a0_1:Int) (l0_2:List Int):Option (Bool):=(impl_IsBoard.f a0_0 a0_1 l0_2).bind fun t102=>(if t102=true then (some (a0_0 == a0_1)) else (some false))
set_option maxHeartbeats 8000000 in
set_option maxRecDepth 100000 in
theorem impl_isSquare.calls (a0_0:Int) (a0_1:Int) (A0_2:Option Addr) (c0_2:Nat) (l0_2:List Int) (r:Bool) (w:World) (hr0_2:Kd.C (Kd.int .i64) w A0_2 l0_2.length l0_2) (hc0_2:l0_2.length≤c0_2) (h:impl_isSquare.f a0_0 a0_1 l0_2=some r) :
  Calls Try.prog 93 #[.agg #[.int .i64 a0_0,.int .i64 a0_1,.slice A0_2 l0_2.length c0_2]] w fun e w'=>e=.returned (.bool r)∧Below w.heap.size w w':=by
 have hu43:=Try.underlying43;have HR0_2:=za hr0_2;have HC0_2:=za hc0_2;clear hr0_2 hc0_2;have HB:=za (Below.refl w.heap.size w);have H:((impl_IsBoard.f a0_0 a0_1 l0_2).bind fun t102=>(if t102=true then (some (a0_0 == a0_1)) else (some false)))=some r:=h;clear h;obtain ⟨t102,A2,H⟩:=bindAside H;(try dsimp only at H);by_cases c3:t102=true
 · subst c3;(have H1:(some (a0_0 == a0_1))=some r:=by rw [if_pos rfl] at H;exact H);clear H;have H:=H1;clear H1;obtain rfl:=Option.some.inj H;(go_enter Try.func93,Try.ntmps93);(go_wp2_with (first|((with_reducible refine zA (N:=1) rfl ?_);refine zF ?hg (N:=1) ?hd (cs:=#[.int .i64 a0_0,.int .i64 a0_1,.slice A0_2 l0_2.length c0_2]) (t:=43) ?hr ?_;(case hd=>rfl);(case hg=>rfl);(case hr=>first|(go_simp;done)|(go_simp;rfl));intro gb101 hg w4 hbox hb;have BK101:=za (hbox);have GW101:=za ((by rw [hg];exact (zo (by repeat (first|(with_reducible first|exact HB.out|apply zc|apply zd|apply zb)|exact HB.out))):w.heap.size≤gb101));have GE101:=za ((by rw [hg];exact (zo (by repeat (first|(with_reducible first|exact HB.out|apply zc|apply zd|apply zb)|exact HB.out))):w.heap.size≤gb101));replace HB:=za (zp (by repeat (first|(with_reducible first|exact HB.out|apply zc|apply zd|apply zb)|exact HB.out)) hb);clear hb hbox hg;have hcz5_0:w4.cell? ⟨gb101,0,none⟩=some (.int .i64 a0_0):=(zg BK101.out 0).trans rfl;have hcz5_1:w4.cell? ⟨gb101,1,none⟩=some (.int .i64 a0_1):=(zg BK101.out 1).trans rfl;have hcz5_2:w4.cell? ⟨gb101,2,none⟩=some (.slice A0_2 l0_2.length c0_2):=(zg BK101.out 2).trans rfl;have hfz5_0:=zm BK101.out 0;have hfz5_1:=zm BK101.out 1;have hfz5_2:=zm BK101.out 2)|((with_reducible refine zq (f:=117) rfl ?_);refine zr (some 4) rfl rfl Try.func117 (by kernel_rfl) rfl #[.agg #[.int .i64 a0_0,.int .i64 a0_1,.slice A0_2 l0_2.length c0_2]] rfl (by first|rfl|simp only [z3_,z4_,z5_];try rfl) ?_;(with_reducible refine (impl_IsBoard.calls a0_0 a0_1 _ _ l0_2 true _ ?side1 ?side2 A2.out).mono ?_);(case side1=>repeat (first|exact (Kd.C_below HR0_2.out HB.out)|(with_reducible refine zC ?_ _)|(with_reducible refine zD ?_ _)|(with_reducible refine zE ?_)));(case side2=>exact HC0_2.out);rintro e w6 ⟨rfl,hb⟩;refine ⟨_,rfl,?_⟩;replace BK101:=za (zu (g:=gb101) (o:=.cells #[.int .i64 a0_0,.int .i64 a0_1,.slice A0_2 l0_2.length c0_2] 43 (0,0)) (by apply_rules only [BK101.out,zh,zf,zi]) hb);replace HB:=za (zp (by repeat (first|(with_reducible first|exact HB.out|apply zc|apply zd|apply zb|refine ze ?_ GE101.out)|exact HB.out)) hb);have hcz7_0:w6.cell? ⟨gb101,0,none⟩=some (.int .i64 a0_0):=(zg BK101.out 0).trans rfl;have hcz7_1:w6.cell? ⟨gb101,1,none⟩=some (.int .i64 a0_1):=(zg BK101.out 1).trans rfl;have hcz7_2:w6.cell? ⟨gb101,2,none⟩=some (.slice A0_2 l0_2.length c0_2):=(zg BK101.out 2).trans rfl;have hfz7_0:=zm BK101.out 0;have hfz7_1:=zm BK101.out 1;have hfz7_2:=zm BK101.out 2)));(go_ret);exact ⟨by first|rfl|simp [*,errW_none,errW_some] <;> rfl,by repeat (first|(with_reducible first|exact HB.out|apply zc|apply zd|apply zb|refine ze ?_ GE101.out)|exact HB.out)⟩
 · replace c3:=Bool.eq_false_iff.mpr c3;subst c3;(have H1:(some false)=some r:=by rw [if_neg (show ¬ (false=true) by decide)] at H;exact H);clear H;have H:=H1;clear H1;obtain rfl:=Option.some.inj H;(go_enter Try.func93,Try.ntmps93);(go_wp2_with (first|((with_reducible refine zA (N:=1) rfl ?_);refine zF ?hg (N:=1) ?hd (cs:=#[.int .i64 a0_0,.int .i64 a0_1,.slice A0_2 l0_2.length c0_2]) (t:=43) ?hr ?_;(case hd=>rfl);(case hg=>rfl);(case hr=>first|(go_simp;done)|(go_simp;rfl));intro gb101 hg w8 hbox hb;have BK101:=za (hbox);have GW101:=za ((by rw [hg];exact (zo (by repeat (first|(with_reducible first|exact HB.out|apply zc|apply zd|apply zb)|exact HB.out))):w.heap.size≤gb101));have GE101:=za ((by rw [hg];exact (zo (by repeat (first|(with_reducible first|exact HB.out|apply zc|apply zd|apply zb)|exact HB.out))):w.heap.size≤gb101));replace HB:=za (zp (by repeat (first|(with_reducible first|exact HB.out|apply zc|apply zd|apply zb)|exact HB.out)) hb);clear hb hbox hg;have hcz9_0:w8.cell? ⟨gb101,0,none⟩=some (.int .i64 a0_0):=(zg BK101.out 0).trans rfl;have hcz9_1:w8.cell? ⟨gb101,1,none⟩=some (.int .i64 a0_1):=(zg BK101.out 1).trans rfl;have hcz9_2:w8.cell? ⟨gb101,2,none⟩=some (.slice A0_2 l0_2.length c0_2):=(zg BK101.out 2).trans rfl;have hfz9_0:=zm BK101.out 0;have hfz9_1:=zm BK101.out 1;have hfz9_2:=zm BK101.out 2)|((with_reducible refine zq (f:=117) rfl ?_);refine zr (some 4) rfl rfl Try.func117 (by kernel_rfl) rfl #[.agg #[.int .i64 a0_0,.int .i64 a0_1,.slice A0_2 l0_2.length c0_2]] rfl (by first|rfl|simp only [z3_,z4_,z5_];try rfl) ?_;(with_reducible refine (impl_IsBoard.calls a0_0 a0_1 _ _ l0_2 false _ ?side1 ?side2 A2.out).mono ?_);(case side1=>repeat (first|exact (Kd.C_below HR0_2.out HB.out)|(with_reducible refine zC ?_ _)|(with_reducible refine zD ?_ _)|(with_reducible refine zE ?_)));(case side2=>exact HC0_2.out);rintro e w10 ⟨rfl,hb⟩;refine ⟨_,rfl,?_⟩;replace BK101:=za (zu (g:=gb101) (o:=.cells #[.int .i64 a0_0,.int .i64 a0_1,.slice A0_2 l0_2.length c0_2] 43 (0,0)) (by apply_rules only [BK101.out,zh,zf,zi]) hb);replace HB:=za (zp (by repeat (first|(with_reducible first|exact HB.out|apply zc|apply zd|apply zb|refine ze ?_ GE101.out)|exact HB.out)) hb))));(go_ret);exact ⟨by first|rfl|simp [*,errW_none,errW_some] <;> rfl,by repeat (first|(with_reducible first|exact HB.out|apply zc|apply zd|apply zb|refine ze ?_ GE101.out)|exact HB.out)⟩
end Go.Proofs.Ytiopnmgcajohfaa.Q
end
section
namespace Go.Proofs.Ytiopnmgcajohfaa.Q
open Go.RowKit Go.Proofs.YtiopnmgcajohfaaW.PrintWords Go.Proofs.YtiopnmgcajohfaaW.PrintLast Go.Proofs.YtiopnmgcajohfaaW.PrintMore
attribute [local go_sem] max2_int min2_int max_two min_two max_three min_three max_four min_four   -- for this text's walks alone
set_option linter.unusedVariables false
set_option linter.unusedSimpArgs false
def spec_l1In.f (a0:Int) (a1:Int) (a2:Int):Option (Bool):=if a0 ≥ a1 then (some (decide (a0≤a2))) else (some false)
set_option maxHeartbeats 8000000 in
set_option maxRecDepth 100000 in
theorem spec_l1In.calls (a0:Int) (a1:Int) (a2:Int) (r:Bool) (w:World) (h:spec_l1In.f a0 a1 a2=some r) :
  Calls Try.prog 77 #[.int .i64 a0,.int .i64 a1,.int .i64 a2] w fun e w'=>e=.returned (.bool r)∧Drawn0 w w':=by
 have H:(if a0 ≥ a1 then (some (decide (a0≤a2))) else (some false))=some r:=h;clear h;by_cases c4:a0 ≥ a1
 · rw [if_pos c4] at H;have c4b0:decide (a1≤a0)=true:=decide_eq_true c4;clear c4;obtain rfl:=Option.some.inj H;(go_enter Try.func77,Try.ntmps77);(go_wp2);(go_ret);exact ⟨by first|rfl|(simp;done)|(simp [*];done),by repeat (first|exact Drawn0.refl _|apply Drawn0.step)⟩
 · rw [if_neg c4] at H;have c4b0:decide (a1≤a0)=false:=decide_eq_false c4;clear c4;obtain rfl:=Option.some.inj H;(go_enter Try.func77,Try.ntmps77);(go_wp2);(go_ret);exact ⟨by first|rfl|(simp;done)|(simp [*];done),by repeat (first|exact Drawn0.refl _|apply Drawn0.step)⟩
end Go.Proofs.Ytiopnmgcajohfaa.Q
end
section
namespace Go.Proofs.Ytiopnmgcajohfaa.Q
open Go.RowKit Go.Proofs.YtiopnmgcajohfaaW.PrintWords Go.Proofs.YtiopnmgcajohfaaW.PrintLast Go.Proofs.YtiopnmgcajohfaaW.PrintMore
attribute [local go_sem] max2_int min2_int max_two min_two max_three min_three max_four min_four   -- for this text's walks alone
set_option linter.unusedVariables false
set_option linter.unusedSimpArgs false
def spec_boSide.f (a0:Int):Option (Bool):=(spec_l1In.f a0 1 6).bind fun t101=>(some t101)
set_option maxHeartbeats 8000000 in
set_option maxRecDepth 100000 in
theorem spec_boSide.calls (a0:Int) (r:Bool) (w:World) (h:spec_boSide.f a0=some r) :
  Calls Try.prog 107 #[.int .i64 a0] w fun e w'=>e=.returned (.bool r)∧Drawn0 w w':=by
 have H:((spec_l1In.f a0 1 6).bind fun t101=>(some t101))=some r:=h;clear h;obtain ⟨t101,A2,H⟩:=bindAside H;(try dsimp only at H);obtain rfl:=Option.some.inj H;(go_enter Try.func107,Try.ntmps107);(go_wp2_with (first|((with_reducible refine zq (f:=77) rfl ?_);refine zr (some 4) rfl rfl Try.func77 (by kernel_rfl) rfl #[.int .i64 a0,.int .i64 1,.int .i64 6] rfl (by first|rfl|simp only [z3_,z4_,z5_];try rfl) ?_;(with_reducible refine (spec_l1In.calls a0 1 6 t101 _ A2.out).mono ?_);rintro e w' ⟨rfl,⟨nd,rfl⟩⟩;refine ⟨_,rfl,?_⟩)));(go_ret);exact ⟨by first|rfl|(simp;done)|(simp [*];done),by repeat (first|exact Drawn0.refl _|apply Drawn0.step)⟩
end Go.Proofs.Ytiopnmgcajohfaa.Q
end
section
namespace Go.Proofs.Ytiopnmgcajohfaa.Q
open Go.RowKit Go.Proofs.YtiopnmgcajohfaaW.PrintWords Go.Proofs.YtiopnmgcajohfaaW.PrintLast Go.Proofs.YtiopnmgcajohfaaW.PrintMore
attribute [local go_sem] max2_int min2_int max_two min_two max_three min_three max_four min_four   -- for this text's walks alone
set_option linter.unusedVariables false
set_option linter.unusedSimpArgs false
def spec_l1All.l0:Nat→Int→Int→List Int→Int→Int→Option (Bool)
|0,_,_,_,_,_=>none
|k + 1,x1,x2,x9,x10,x11=>if x11 < x10 then (if 0≤x11 then (if x11 < (x9.length:Int) then ((spec_l1In.f (rd x9 x11) x1 x2).bind fun t102=>(if t102=true then (spec_l1All.l0 k x1 x2 x9 x10 (wrap64 (x11 + 1))) else (some false))) else (none)) else (none)) else (some true)
def spec_l1All.f (k:Nat) (l0:List Int) (a1:Int) (a2:Int):Option (Bool):=spec_l1All.l0 k a1 a2 l0 (l0.length:Int) 0
set_option maxHeartbeats 8000000 in
set_option maxRecDepth 100000 in
theorem spec_l1All.calls (k:Nat) (A0:Option Addr) (c0:Nat) (l0:List Int) (a1:Int) (a2:Int) (r:Bool) (w:World) (hr0:Kd.C (Kd.int .i64) w A0 l0.length l0) (hc0:l0.length≤c0) (h:spec_l1All.f k l0 a1 a2=some r) :
  Calls Try.prog 131 #[.slice A0 l0.length c0,.int .i64 a1,.int .i64 a2] w fun e w'=>e=.returned (.bool r)∧Drawn0 w w':=by
 have HR0:=za hr0;have HC0:=za hc0;clear hr0 hc0;have H:(spec_l1All.l0 k a1 a2 l0 (l0.length:Int) 0)=some r:=h;clear h;have H':=za H;clear H;(go_enter Try.func131,Try.ntmps131);(go_wp2);(go_loopg [11] k (fun kq v11 w'=>∃ (x11_1:Int),v11=.int .i64 x11_1∧Aside0 (spec_l1All.l0 kq a1 a2 l0 (l0.length:Int) x11_1=some r)∧Aside0 (kq≤k)∧Drawn0 w w'));case atStart=>exact ⟨(0),(by first|rfl|(simp;done)|(simp [*];done)),H',⟨Nat.le_refl _⟩,by repeat (first|exact Drawn0.refl _|apply Drawn0.step)⟩
 case round =>
  clear H';(try clear c1);(try clear p2);obtain ⟨x11_1,rfl,HA,HK1,⟨m1,rfl⟩⟩:=hrel
  cases gk with
 |zero=>exact absurd HA.out (by simp [spec_l1All.l0])
 |succ k1 =>
   have H:=HA.out;clear HA;simp only [spec_l1All.l0] at H;by_cases c4:x11_1 < (l0.length:Int)
   ·
    rw [if_pos c4] at H;have c4b0:decide (x11_1 < (l0.length:Int))=true:=decide_eq_true c4;clear c4;by_cases c5:0≤x11_1
    ·
     rw [if_pos c5] at H;have c5b0:decide (0≤x11_1)=true:=decide_eq_true c5;clear c5;by_cases c6:x11_1 < (l0.length:Int)
     ·
      rw [if_pos c6] at H;have c6b0:decide (x11_1 < (l0.length:Int))=true:=decide_eq_true c6;clear c6;obtain ⟨t102,A7,H⟩:=bindAside H;(try dsimp only at H);by_cases c8:t102=true
      · subst c8;(have H1:(spec_l1All.l0 k1 a1 a2 l0 (l0.length:Int) (wrap64 (x11_1 + 1)))=some r:=by rw [if_pos rfl] at H;exact H);clear H;have H:=H1;clear H1;have H':=za H;clear H;have p101:0≤(x11_1:Int):=of_decide_eq_true ‹_›;have q101:x11_1 < (l0.length:Int):=of_decide_eq_true ‹_›;obtain ⟨ad101,e101,hx101_0⟩:=Kd.at_int HR0.out x11_1 p101 q101;cases e101;replace p101:=eq_true p101;replace q101:=eq_true q101;(go_wp2_with (first|((with_reducible refine zq (f:=77) rfl ?_);refine zr (some 18) rfl rfl Try.func77 (by kernel_rfl) rfl #[.int .i64 (rd l0 x11_1),.int .i64 a1,.int .i64 a2] rfl (by first|rfl|simp only [z3_,z4_,z5_];try rfl) ?_;(with_reducible refine (spec_l1In.calls (rd l0 x11_1) a1 a2 true _ A7.out).mono ?_);rintro e w' ⟨rfl,⟨nd,rfl⟩⟩;refine ⟨_,rfl,?_⟩)));(go_roundg k1);(case measure=>have:=HK1.out;omega);case rel=>exact ⟨(wrap64 (x11_1 + 1)),(by first|rfl|(simp;done)|(simp [*];done)),H',⟨by have:=HK1.out;omega⟩,by repeat (first|exact Drawn0.refl _|apply Drawn0.step)⟩
      · replace c8:=Bool.eq_false_iff.mpr c8;subst c8;(have H1:(some false)=some r:=by rw [if_neg (show ¬ (false=true) by decide)] at H;exact H);clear H;have H:=H1;clear H1;obtain rfl:=Option.some.inj H;have p101:0≤(x11_1:Int):=of_decide_eq_true ‹_›;have q101:x11_1 < (l0.length:Int):=of_decide_eq_true ‹_›;obtain ⟨ad101,e101,hx101_0⟩:=Kd.at_int HR0.out x11_1 p101 q101;cases e101;replace p101:=eq_true p101;replace q101:=eq_true q101;(go_wp2_with (first|((with_reducible refine zq (f:=77) rfl ?_);refine zr (some 18) rfl rfl Try.func77 (by kernel_rfl) rfl #[.int .i64 (rd l0 x11_1),.int .i64 a1,.int .i64 a2] rfl (by first|rfl|simp only [z3_,z4_,z5_];try rfl) ?_;(with_reducible refine (spec_l1In.calls (rd l0 x11_1) a1 a2 false _ A7.out).mono ?_);rintro e w' ⟨rfl,⟨nd,rfl⟩⟩;refine ⟨_,rfl,?_⟩)));(go_ret);exact ⟨by first|rfl|(simp;done)|(simp [*];done),by repeat (first|exact Drawn0.refl _|apply Drawn0.step)⟩
     · rw [if_neg c6] at H;exact absurd H (by simp)
    · rw [if_neg c5] at H;exact absurd H (by simp)
   · rw [if_neg c4] at H;have c4b0:decide (x11_1 < (l0.length:Int))=false:=decide_eq_false c4;clear c4;obtain rfl:=Option.some.inj H;(go_wp2);(go_ret);exact ⟨by first|rfl|(simp;done)|(simp [*];done),by repeat (first|exact Drawn0.refl _|apply Drawn0.step)⟩
end Go.Proofs.Ytiopnmgcajohfaa.Q
end
section
namespace Go.Proofs.Ytiopnmgcajohfaa.Q
open Go.RowKit Go.Proofs.YtiopnmgcajohfaaW.PrintWords Go.Proofs.YtiopnmgcajohfaaW.PrintLast Go.Proofs.YtiopnmgcajohfaaW.PrintMore
attribute [local go_sem] max2_int min2_int max_two min_two max_three min_three max_four min_four   -- for this text's walks alone
set_option linter.unusedVariables false
set_option linter.unusedSimpArgs false
def spec_boGood.f (k:Nat) (a0_0:Int) (a0_1:Int) (l0_2:List Int):Option (Bool):=(spec_boSide.f a0_0).bind fun t102=>(if t102=true then ((spec_boSide.f a0_1).bind fun t103=>(if t103=true then (if (l0_2.length:Int)=a0_0 then (if 0≤a0_1 then ((spec_l1All.f k l0_2 0 (wrap64 ((shl .i64 1 a0_1) - 1))).bind fun t104=>(some t104)) else (none)) else (some false)) else (some false))) else (some false))
set_option maxHeartbeats 8000000 in
set_option maxRecDepth 100000 in
theorem spec_boGood.calls (k:Nat) (a0_0:Int) (a0_1:Int) (A0_2:Option Addr) (c0_2:Nat) (l0_2:List Int) (r:Bool) (w:World) (hr0_2:Kd.C (Kd.int .i64) w A0_2 l0_2.length l0_2) (hc0_2:l0_2.length≤c0_2) (h:spec_boGood.f k a0_0 a0_1 l0_2=some r) :
  Calls Try.prog 101 #[.agg #[.int .i64 a0_0,.int .i64 a0_1,.slice A0_2 l0_2.length c0_2]] w fun e w'=>e=.returned (.bool r)∧Below w.heap.size w w':=by
 have hu43:=Try.underlying43;have HR0_2:=za hr0_2;have HC0_2:=za hc0_2;clear hr0_2 hc0_2;have HB:=za (Below.refl w.heap.size w);have H:((spec_boSide.f a0_0).bind fun t102=>(if t102=true then ((spec_boSide.f a0_1).bind fun t103=>(if t103=true then (if (l0_2.length:Int)=a0_0 then (if 0≤a0_1 then ((spec_l1All.f k l0_2 0 (wrap64 ((shl .i64 1 a0_1) - 1))).bind fun t104=>(some t104)) else (none)) else (some false)) else (some false))) else (some false)))=some r:=h;clear h;obtain ⟨t102,A2,H⟩:=bindAside H;(try dsimp only at H);by_cases c3:t102=true
 ·
  subst c3;(have H1:((spec_boSide.f a0_1).bind fun t103=>(if t103=true then (if (l0_2.length:Int)=a0_0 then (if 0≤a0_1 then ((spec_l1All.f k l0_2 0 (wrap64 ((shl .i64 1 a0_1) - 1))).bind fun t104=>(some t104)) else (none)) else (some false)) else (some false)))=some r:=by rw [if_pos rfl] at H;exact H);clear H;have H:=H1;clear H1;obtain ⟨t103,A4,H⟩:=bindAside H;(try dsimp only at H);by_cases c5:t103=true
  ·
   subst c5;(have H1:(if (l0_2.length:Int)=a0_0 then (if 0≤a0_1 then ((spec_l1All.f k l0_2 0 (wrap64 ((shl .i64 1 a0_1) - 1))).bind fun t104=>(some t104)) else (none)) else (some false))=some r:=by rw [if_pos rfl] at H;exact H);clear H;have H:=H1;clear H1;by_cases c6:(l0_2.length:Int)=a0_0
   ·
    rw [if_pos c6] at H;have c6b0:((l0_2.length:Int) == a0_0)=true:=beq_iff_eq.mpr c6;have c6b1:((l0_2.length:Int) != a0_0)=false:=bne_eq_false_iff_eq.mpr c6;clear c6;by_cases c7:0≤a0_1
    · rw [if_pos c7] at H;have c7b0:=eq_true c7;have c7b1:decide (0≤a0_1)=true:=decide_eq_true c7;clear c7;obtain ⟨ji8,hji8⟩:∃ j_:Int,(shl .i64 1 a0_1)=j_:=⟨_,rfl⟩;(replace H:((spec_l1All.f k l0_2 0 (wrap64 ((ji8) - 1))).bind fun t104=>(some t104))=some r:=by first|(rw [hji8] at H;exact H)|(simp only [hji8] at H ⊢;exact H));(try rw [hji8] at A2);(try rw [hji8] at A4);have hji8_:(IntKind.i64.wrap (1 * 2 ^ min a0_1.toNat 64))=ji8:=hji8;have hji8z:a0_1≤64→(IntKind.i64.wrap (1 * 2 ^ a0_1.toNat))=ji8:=shl_small hji8;(have hji8u:(IntKind.i64.wrap (2 ^ min a0_1.toNat 64))=ji8:=by have h_:=hji8_;rw [Int.one_mul] at h_;exact h_);(have hji8v:a0_1≤64→(IntKind.i64.wrap (2 ^ a0_1.toNat))=ji8:=fun hle_=>by have h_:=hji8z hle_;rw [Int.one_mul] at h_;exact h_);have hji8y:(wrap64 (1 * 2 ^ min a0_1.toNat 64))=ji8:=(i64_w _).symm.trans hji8_;(have hji8x:a0_1≤64→(wrap64 (1 * 2 ^ a0_1.toNat))=ji8:=fun h_=>(i64_w _).symm.trans (hji8z h_));obtain ⟨t104,A9,H⟩:=bindAside H;(try dsimp only at H);obtain rfl:=Option.some.inj H;(go_enter Try.func101,Try.ntmps101);(go_wp2_with (first|((with_reducible refine zA (N:=1) rfl ?_);refine zF ?hg (N:=1) ?hd (cs:=#[.int .i64 a0_0,.int .i64 a0_1,.slice A0_2 l0_2.length c0_2]) (t:=43) ?hr ?_;(case hd=>rfl);(case hg=>rfl);(case hr=>first|(go_simp;done)|(go_simp;rfl));intro gb101 hg w10 hbox hb;have BK101:=za (hbox);have GW101:=za ((by rw [hg];exact (zo (by repeat (first|(with_reducible first|exact HB.out|apply zc|apply zd|apply zb)|exact HB.out))):w.heap.size≤gb101));have GE101:=za ((by rw [hg];exact (zo (by repeat (first|(with_reducible first|exact HB.out|apply zc|apply zd|apply zb)|exact HB.out))):w.heap.size≤gb101));replace HB:=za (zp (by repeat (first|(with_reducible first|exact HB.out|apply zc|apply zd|apply zb)|exact HB.out)) hb);clear hb hbox hg;have hcz11_0:w10.cell? ⟨gb101,0,none⟩=some (.int .i64 a0_0):=(zg BK101.out 0).trans rfl;have hcz11_1:w10.cell? ⟨gb101,1,none⟩=some (.int .i64 a0_1):=(zg BK101.out 1).trans rfl;have hcz11_2:w10.cell? ⟨gb101,2,none⟩=some (.slice A0_2 l0_2.length c0_2):=(zg BK101.out 2).trans rfl;have hfz11_0:=zm BK101.out 0;have hfz11_1:=zm BK101.out 1;have hfz11_2:=zm BK101.out 2)|(go_at_call 107;(with_reducible refine (spec_boSide.calls a0_0 true _ A2.out).mono ?_);rintro e w' ⟨rfl,⟨nd,rfl⟩⟩;(try first|exact ⟨rfl,_,World.drewN_drewN _ _ _⟩|exact ⟨rfl,_,Eq.trans (World.drewN_drewN _ _ _) (congrArg (World.drewN _) (Nat.add_assoc _ _ _))⟩))|(go_at_call 107;(with_reducible refine (spec_boSide.calls a0_1 true _ A4.out).mono ?_);rintro e w' ⟨rfl,⟨nd,rfl⟩⟩;(try first|exact ⟨rfl,_,World.drewN_drewN _ _ _⟩|exact ⟨rfl,_,Eq.trans (World.drewN_drewN _ _ _) (congrArg (World.drewN _) (Nat.add_assoc _ _ _))⟩))|(go_at_call 131;(with_reducible refine (spec_l1All.calls k _ _ l0_2 0 (wrap64 ((ji8) - 1)) t104 _ ?side1 ?side2 A9.out).mono ?_);(case side1=>repeat (first|exact (Kd.C_below HR0_2.out (by repeat (first|(with_reducible first|exact HB.out|apply zc|apply zd|apply zb|refine ze ?_ GE101.out)|exact HB.out)))|(with_reducible refine zC ?_ _)|(with_reducible refine zD ?_ _)|(with_reducible refine zE ?_)));(case side2=>exact HC0_2.out);rintro e w' ⟨rfl,⟨nd,rfl⟩⟩;(try first|exact ⟨rfl,_,World.drewN_drewN _ _ _⟩|exact ⟨rfl,_,Eq.trans (World.drewN_drewN _ _ _) (congrArg (World.drewN _) (Nat.add_assoc _ _ _))⟩))));(repeat (go_quiet (first|((with_reducible refine zA (N:=1) rfl ?_);refine zF ?hg (N:=1) ?hd (cs:=#[.int .i64 a0_0,.int .i64 a0_1,.slice A0_2 l0_2.length c0_2]) (t:=43) ?hr ?_;(case hd=>rfl);(case hg=>rfl);(case hr=>first|(go_simp;done)|(go_simp;rfl));intro gb101 hg w10 hbox hb;have BK101:=za (hbox);have GW101:=za ((by rw [hg];exact (zo (by repeat (first|(with_reducible first|exact HB.out|apply zc|apply zd|apply zb)|exact HB.out))):w.heap.size≤gb101));have GE101:=za ((by rw [hg];exact (zo (by repeat (first|(with_reducible first|exact HB.out|apply zc|apply zd|apply zb)|exact HB.out))):w.heap.size≤gb101));replace HB:=za (zp (by repeat (first|(with_reducible first|exact HB.out|apply zc|apply zd|apply zb)|exact HB.out)) hb);clear hb hbox hg;have hcz11_0:w10.cell? ⟨gb101,0,none⟩=some (.int .i64 a0_0):=(zg BK101.out 0).trans rfl;have hcz11_1:w10.cell? ⟨gb101,1,none⟩=some (.int .i64 a0_1):=(zg BK101.out 1).trans rfl;have hcz11_2:w10.cell? ⟨gb101,2,none⟩=some (.slice A0_2 l0_2.length c0_2):=(zg BK101.out 2).trans rfl;have hfz11_0:=zm BK101.out 0;have hfz11_1:=zm BK101.out 1;have hfz11_2:=zm BK101.out 2)|(go_at_call 107;(with_reducible refine (spec_boSide.calls a0_0 true _ A2.out).mono ?_);rintro e w' ⟨rfl,⟨nd,rfl⟩⟩;(try first|exact ⟨rfl,_,World.drewN_drewN _ _ _⟩|exact ⟨rfl,_,Eq.trans (World.drewN_drewN _ _ _) (congrArg (World.drewN _) (Nat.add_assoc _ _ _))⟩))|(go_at_call 107;(with_reducible refine (spec_boSide.calls a0_1 true _ A4.out).mono ?_);rintro e w' ⟨rfl,⟨nd,rfl⟩⟩;(try first|exact ⟨rfl,_,World.drewN_drewN _ _ _⟩|exact ⟨rfl,_,Eq.trans (World.drewN_drewN _ _ _) (congrArg (World.drewN _) (Nat.add_assoc _ _ _))⟩))|(go_at_call 131;(with_reducible refine (spec_l1All.calls k _ _ l0_2 0 (wrap64 ((ji8) - 1)) t104 _ ?side1 ?side2 A9.out).mono ?_);(case side1=>repeat (first|exact (Kd.C_below HR0_2.out (by repeat (first|(with_reducible first|exact HB.out|apply zc|apply zd|apply zb|refine ze ?_ GE101.out)|exact HB.out)))|(with_reducible refine zC ?_ _)|(with_reducible refine zD ?_ _)|(with_reducible refine zE ?_)));(case side2=>exact HC0_2.out);rintro e w' ⟨rfl,⟨nd,rfl⟩⟩;(try first|exact ⟨rfl,_,World.drewN_drewN _ _ _⟩|exact ⟨rfl,_,Eq.trans (World.drewN_drewN _ _ _) (congrArg (World.drewN _) (Nat.add_assoc _ _ _))⟩)));try go_wp2_with (first|((with_reducible refine zA (N:=1) rfl ?_);refine zF ?hg (N:=1) ?hd (cs:=#[.int .i64 a0_0,.int .i64 a0_1,.slice A0_2 l0_2.length c0_2]) (t:=43) ?hr ?_;(case hd=>rfl);(case hg=>rfl);(case hr=>first|(go_simp;done)|(go_simp;rfl));intro gb101 hg w10 hbox hb;have BK101:=za (hbox);have GW101:=za ((by rw [hg];exact (zo (by repeat (first|(with_reducible first|exact HB.out|apply zc|apply zd|apply zb)|exact HB.out))):w.heap.size≤gb101));have GE101:=za ((by rw [hg];exact (zo (by repeat (first|(with_reducible first|exact HB.out|apply zc|apply zd|apply zb)|exact HB.out))):w.heap.size≤gb101));replace HB:=za (zp (by repeat (first|(with_reducible first|exact HB.out|apply zc|apply zd|apply zb)|exact HB.out)) hb);clear hb hbox hg;have hcz11_0:w10.cell? ⟨gb101,0,none⟩=some (.int .i64 a0_0):=(zg BK101.out 0).trans rfl;have hcz11_1:w10.cell? ⟨gb101,1,none⟩=some (.int .i64 a0_1):=(zg BK101.out 1).trans rfl;have hcz11_2:w10.cell? ⟨gb101,2,none⟩=some (.slice A0_2 l0_2.length c0_2):=(zg BK101.out 2).trans rfl;have hfz11_0:=zm BK101.out 0;have hfz11_1:=zm BK101.out 1;have hfz11_2:=zm BK101.out 2)|(go_at_call 107;(with_reducible refine (spec_boSide.calls a0_0 true _ A2.out).mono ?_);rintro e w' ⟨rfl,⟨nd,rfl⟩⟩;(try first|exact ⟨rfl,_,World.drewN_drewN _ _ _⟩|exact ⟨rfl,_,Eq.trans (World.drewN_drewN _ _ _) (congrArg (World.drewN _) (Nat.add_assoc _ _ _))⟩))|(go_at_call 107;(with_reducible refine (spec_boSide.calls a0_1 true _ A4.out).mono ?_);rintro e w' ⟨rfl,⟨nd,rfl⟩⟩;(try first|exact ⟨rfl,_,World.drewN_drewN _ _ _⟩|exact ⟨rfl,_,Eq.trans (World.drewN_drewN _ _ _) (congrArg (World.drewN _) (Nat.add_assoc _ _ _))⟩))|(go_at_call 131;(with_reducible refine (spec_l1All.calls k _ _ l0_2 0 (wrap64 ((ji8) - 1)) t104 _ ?side1 ?side2 A9.out).mono ?_);(case side1=>repeat (first|exact (Kd.C_below HR0_2.out (by repeat (first|(with_reducible first|exact HB.out|apply zc|apply zd|apply zb|refine ze ?_ GE101.out)|exact HB.out)))|(with_reducible refine zC ?_ _)|(with_reducible refine zD ?_ _)|(with_reducible refine zE ?_)));(case side2=>exact HC0_2.out);rintro e w' ⟨rfl,⟨nd,rfl⟩⟩;(try first|exact ⟨rfl,_,World.drewN_drewN _ _ _⟩|exact ⟨rfl,_,Eq.trans (World.drewN_drewN _ _ _) (congrArg (World.drewN _) (Nat.add_assoc _ _ _))⟩)))));(go_ret);exact ⟨by first|rfl|(simp [errW_none,errW_some] <;> rfl)|(simp only [← hji8];first|rfl|(simp [errW_none,errW_some] <;> rfl))|(simp [*,errW_none,errW_some] <;> rfl),by repeat (first|(with_reducible first|exact HB.out|apply zc|apply zd|apply zb|refine ze ?_ GE101.out)|exact HB.out)⟩
    · rw [if_neg c7] at H;exact absurd H (by simp)
   · rw [if_neg c6] at H;have c6b0:((l0_2.length:Int) == a0_0)=false:=beq_eq_false_iff_ne.mpr c6;have c6b1:((l0_2.length:Int) != a0_0)=true:=bne_iff_ne.mpr c6;obtain rfl:=Option.some.inj H;(go_enter Try.func101,Try.ntmps101);(go_wp2_with (first|((with_reducible refine zA (N:=1) rfl ?_);refine zF ?hg (N:=1) ?hd (cs:=#[.int .i64 a0_0,.int .i64 a0_1,.slice A0_2 l0_2.length c0_2]) (t:=43) ?hr ?_;(case hd=>rfl);(case hg=>rfl);(case hr=>first|(go_simp;done)|(go_simp;rfl));intro gb101 hg w12 hbox hb;have BK101:=za (hbox);have GW101:=za ((by rw [hg];exact (zo (by repeat (first|(with_reducible first|exact HB.out|apply zc|apply zd|apply zb)|exact HB.out))):w.heap.size≤gb101));have GE101:=za ((by rw [hg];exact (zo (by repeat (first|(with_reducible first|exact HB.out|apply zc|apply zd|apply zb)|exact HB.out))):w.heap.size≤gb101));replace HB:=za (zp (by repeat (first|(with_reducible first|exact HB.out|apply zc|apply zd|apply zb)|exact HB.out)) hb);clear hb hbox hg;have hcz13_0:w12.cell? ⟨gb101,0,none⟩=some (.int .i64 a0_0):=(zg BK101.out 0).trans rfl;have hcz13_1:w12.cell? ⟨gb101,1,none⟩=some (.int .i64 a0_1):=(zg BK101.out 1).trans rfl;have hcz13_2:w12.cell? ⟨gb101,2,none⟩=some (.slice A0_2 l0_2.length c0_2):=(zg BK101.out 2).trans rfl;have hfz13_0:=zm BK101.out 0;have hfz13_1:=zm BK101.out 1;have hfz13_2:=zm BK101.out 2)|(go_at_call 107;(with_reducible refine (spec_boSide.calls a0_0 true _ A2.out).mono ?_);rintro e w' ⟨rfl,⟨nd,rfl⟩⟩;(try first|exact ⟨rfl,_,World.drewN_drewN _ _ _⟩|exact ⟨rfl,_,Eq.trans (World.drewN_drewN _ _ _) (congrArg (World.drewN _) (Nat.add_assoc _ _ _))⟩))|(go_at_call 107;(with_reducible refine (spec_boSide.calls a0_1 true _ A4.out).mono ?_);rintro e w' ⟨rfl,⟨nd,rfl⟩⟩;(try first|exact ⟨rfl,_,World.drewN_drewN _ _ _⟩|exact ⟨rfl,_,Eq.trans (World.drewN_drewN _ _ _) (congrArg (World.drewN _) (Nat.add_assoc _ _ _))⟩))));(repeat (go_quiet (first|((with_reducible refine zA (N:=1) rfl ?_);refine zF ?hg (N:=1) ?hd (cs:=#[.int .i64 a0_0,.int .i64 a0_1,.slice A0_2 l0_2.length c0_2]) (t:=43) ?hr ?_;(case hd=>rfl);(case hg=>rfl);(case hr=>first|(go_simp;done)|(go_simp;rfl));intro gb101 hg w12 hbox hb;have BK101:=za (hbox);have GW101:=za ((by rw [hg];exact (zo (by repeat (first|(with_reducible first|exact HB.out|apply zc|apply zd|apply zb)|exact HB.out))):w.heap.size≤gb101));have GE101:=za ((by rw [hg];exact (zo (by repeat (first|(with_reducible first|exact HB.out|apply zc|apply zd|apply zb)|exact HB.out))):w.heap.size≤gb101));replace HB:=za (zp (by repeat (first|(with_reducible first|exact HB.out|apply zc|apply zd|apply zb)|exact HB.out)) hb);clear hb hbox hg;have hcz13_0:w12.cell? ⟨gb101,0,none⟩=some (.int .i64 a0_0):=(zg BK101.out 0).trans rfl;have hcz13_1:w12.cell? ⟨gb101,1,none⟩=some (.int .i64 a0_1):=(zg BK101.out 1).trans rfl;have hcz13_2:w12.cell? ⟨gb101,2,none⟩=some (.slice A0_2 l0_2.length c0_2):=(zg BK101.out 2).trans rfl;have hfz13_0:=zm BK101.out 0;have hfz13_1:=zm BK101.out 1;have hfz13_2:=zm BK101.out 2)|(go_at_call 107;(with_reducible refine (spec_boSide.calls a0_0 true _ A2.out).mono ?_);rintro e w' ⟨rfl,⟨nd,rfl⟩⟩;(try first|exact ⟨rfl,_,World.drewN_drewN _ _ _⟩|exact ⟨rfl,_,Eq.trans (World.drewN_drewN _ _ _) (congrArg (World.drewN _) (Nat.add_assoc _ _ _))⟩))|(go_at_call 107;(with_reducible refine (spec_boSide.calls a0_1 true _ A4.out).mono ?_);rintro e w' ⟨rfl,⟨nd,rfl⟩⟩;(try first|exact ⟨rfl,_,World.drewN_drewN _ _ _⟩|exact ⟨rfl,_,Eq.trans (World.drewN_drewN _ _ _) (congrArg (World.drewN _) (Nat.add_assoc _ _ _))⟩)));try go_wp2_with (first|((with_reducible refine zA (N:=1) rfl ?_);refine zF ?hg (N:=1) ?hd (cs:=#[.int .i64 a0_0,.int .i64 a0_1,.slice A0_2 l0_2.length c0_2]) (t:=43) ?hr ?_;(case hd=>rfl);(case hg=>rfl);(case hr=>first|(go_simp;done)|(go_simp;rfl));intro gb101 hg w12 hbox hb;have BK101:=za (hbox);have GW101:=za ((by rw [hg];exact (zo (by repeat (first|(with_reducible first|exact HB.out|apply zc|apply zd|apply zb)|exact HB.out))):w.heap.size≤gb101));have GE101:=za ((by rw [hg];exact (zo (by repeat (first|(with_reducible first|exact HB.out|apply zc|apply zd|apply zb)|exact HB.out))):w.heap.size≤gb101));replace HB:=za (zp (by repeat (first|(with_reducible first|exact HB.out|apply zc|apply zd|apply zb)|exact HB.out)) hb);clear hb hbox hg;have hcz13_0:w12.cell? ⟨gb101,0,none⟩=some (.int .i64 a0_0):=(zg BK101.out 0).trans rfl;have hcz13_1:w12.cell? ⟨gb101,1,none⟩=some (.int .i64 a0_1):=(zg BK101.out 1).trans rfl;have hcz13_2:w12.cell? ⟨gb101,2,none⟩=some (.slice A0_2 l0_2.length c0_2):=(zg BK101.out 2).trans rfl;have hfz13_0:=zm BK101.out 0;have hfz13_1:=zm BK101.out 1;have hfz13_2:=zm BK101.out 2)|(go_at_call 107;(with_reducible refine (spec_boSide.calls a0_0 true _ A2.out).mono ?_);rintro e w' ⟨rfl,⟨nd,rfl⟩⟩;(try first|exact ⟨rfl,_,World.drewN_drewN _ _ _⟩|exact ⟨rfl,_,Eq.trans (World.drewN_drewN _ _ _) (congrArg (World.drewN _) (Nat.add_assoc _ _ _))⟩))|(go_at_call 107;(with_reducible refine (spec_boSide.calls a0_1 true _ A4.out).mono ?_);rintro e w' ⟨rfl,⟨nd,rfl⟩⟩;(try first|exact ⟨rfl,_,World.drewN_drewN _ _ _⟩|exact ⟨rfl,_,Eq.trans (World.drewN_drewN _ _ _) (congrArg (World.drewN _) (Nat.add_assoc _ _ _))⟩)))));(go_ret);exact ⟨by first|rfl|simp [*,errW_none,errW_some] <;> rfl,by repeat (first|(with_reducible first|exact HB.out|apply zc|apply zd|apply zb|refine ze ?_ GE101.out)|exact HB.out)⟩
  · replace c5:=Bool.eq_false_iff.mpr c5;subst c5;(have H1:(some false)=some r:=by rw [if_neg (show ¬ (false=true) by decide)] at H;exact H);clear H;have H:=H1;clear H1;obtain rfl:=Option.some.inj H;(go_enter Try.func101,Try.ntmps101);(go_wp2_with (first|((with_reducible refine zA (N:=1) rfl ?_);refine zF ?hg (N:=1) ?hd (cs:=#[.int .i64 a0_0,.int .i64 a0_1,.slice A0_2 l0_2.length c0_2]) (t:=43) ?hr ?_;(case hd=>rfl);(case hg=>rfl);(case hr=>first|(go_simp;done)|(go_simp;rfl));intro gb101 hg w14 hbox hb;have BK101:=za (hbox);have GW101:=za ((by rw [hg];exact (zo (by repeat (first|(with_reducible first|exact HB.out|apply zc|apply zd|apply zb)|exact HB.out))):w.heap.size≤gb101));have GE101:=za ((by rw [hg];exact (zo (by repeat (first|(with_reducible first|exact HB.out|apply zc|apply zd|apply zb)|exact HB.out))):w.heap.size≤gb101));replace HB:=za (zp (by repeat (first|(with_reducible first|exact HB.out|apply zc|apply zd|apply zb)|exact HB.out)) hb);clear hb hbox hg;have hcz15_0:w14.cell? ⟨gb101,0,none⟩=some (.int .i64 a0_0):=(zg BK101.out 0).trans rfl;have hcz15_1:w14.cell? ⟨gb101,1,none⟩=some (.int .i64 a0_1):=(zg BK101.out 1).trans rfl;have hcz15_2:w14.cell? ⟨gb101,2,none⟩=some (.slice A0_2 l0_2.length c0_2):=(zg BK101.out 2).trans rfl;have hfz15_0:=zm BK101.out 0;have hfz15_1:=zm BK101.out 1;have hfz15_2:=zm BK101.out 2)|(go_at_call 107;(with_reducible refine (spec_boSide.calls a0_0 true _ A2.out).mono ?_);rintro e w' ⟨rfl,⟨nd,rfl⟩⟩;(try first|exact ⟨rfl,_,World.drewN_drewN _ _ _⟩|exact ⟨rfl,_,Eq.trans (World.drewN_drewN _ _ _) (congrArg (World.drewN _) (Nat.add_assoc _ _ _))⟩))|(go_at_call 107;(with_reducible refine (spec_boSide.calls a0_1 false _ A4.out).mono ?_);rintro e w' ⟨rfl,⟨nd,rfl⟩⟩;(try first|exact ⟨rfl,_,World.drewN_drewN _ _ _⟩|exact ⟨rfl,_,Eq.trans (World.drewN_drewN _ _ _) (congrArg (World.drewN _) (Nat.add_assoc _ _ _))⟩))));(repeat (go_quiet (first|((with_reducible refine zA (N:=1) rfl ?_);refine zF ?hg (N:=1) ?hd (cs:=#[.int .i64 a0_0,.int .i64 a0_1,.slice A0_2 l0_2.length c0_2]) (t:=43) ?hr ?_;(case hd=>rfl);(case hg=>rfl);(case hr=>first|(go_simp;done)|(go_simp;rfl));intro gb101 hg w14 hbox hb;have BK101:=za (hbox);have GW101:=za ((by rw [hg];exact (zo (by repeat (first|(with_reducible first|exact HB.out|apply zc|apply zd|apply zb)|exact HB.out))):w.heap.size≤gb101));have GE101:=za ((by rw [hg];exact (zo (by repeat (first|(with_reducible first|exact HB.out|apply zc|apply zd|apply zb)|exact HB.out))):w.heap.size≤gb101));replace HB:=za (zp (by repeat (first|(with_reducible first|exact HB.out|apply zc|apply zd|apply zb)|exact HB.out)) hb);clear hb hbox hg;have hcz15_0:w14.cell? ⟨gb101,0,none⟩=some (.int .i64 a0_0):=(zg BK101.out 0).trans rfl;have hcz15_1:w14.cell? ⟨gb101,1,none⟩=some (.int .i64 a0_1):=(zg BK101.out 1).trans rfl;have hcz15_2:w14.cell? ⟨gb101,2,none⟩=some (.slice A0_2 l0_2.length c0_2):=(zg BK101.out 2).trans rfl;have hfz15_0:=zm BK101.out 0;have hfz15_1:=zm BK101.out 1;have hfz15_2:=zm BK101.out 2)|(go_at_call 107;(with_reducible refine (spec_boSide.calls a0_0 true _ A2.out).mono ?_);rintro e w' ⟨rfl,⟨nd,rfl⟩⟩;(try first|exact ⟨rfl,_,World.drewN_drewN _ _ _⟩|exact ⟨rfl,_,Eq.trans (World.drewN_drewN _ _ _) (congrArg (World.drewN _) (Nat.add_assoc _ _ _))⟩))|(go_at_call 107;(with_reducible refine (spec_boSide.calls a0_1 false _ A4.out).mono ?_);rintro e w' ⟨rfl,⟨nd,rfl⟩⟩;(try first|exact ⟨rfl,_,World.drewN_drewN _ _ _⟩|exact ⟨rfl,_,Eq.trans (World.drewN_drewN _ _ _) (congrArg (World.drewN _) (Nat.add_assoc _ _ _))⟩)));try go_wp2_with (first|((with_reducible refine zA (N:=1) rfl ?_);refine zF ?hg (N:=1) ?hd (cs:=#[.int .i64 a0_0,.int .i64 a0_1,.slice A0_2 l0_2.length c0_2]) (t:=43) ?hr ?_;(case hd=>rfl);(case hg=>rfl);(case hr=>first|(go_simp;done)|(go_simp;rfl));intro gb101 hg w14 hbox hb;have BK101:=za (hbox);have GW101:=za ((by rw [hg];exact (zo (by repeat (first|(with_reducible first|exact HB.out|apply zc|apply zd|apply zb)|exact HB.out))):w.heap.size≤gb101));have GE101:=za ((by rw [hg];exact (zo (by repeat (first|(with_reducible first|exact HB.out|apply zc|apply zd|apply zb)|exact HB.out))):w.heap.size≤gb101));replace HB:=za (zp (by repeat (first|(with_reducible first|exact HB.out|apply zc|apply zd|apply zb)|exact HB.out)) hb);clear hb hbox hg;have hcz15_0:w14.cell? ⟨gb101,0,none⟩=some (.int .i64 a0_0):=(zg BK101.out 0).trans rfl;have hcz15_1:w14.cell? ⟨gb101,1,none⟩=some (.int .i64 a0_1):=(zg BK101.out 1).trans rfl;have hcz15_2:w14.cell? ⟨gb101,2,none⟩=some (.slice A0_2 l0_2.length c0_2):=(zg BK101.out 2).trans rfl;have hfz15_0:=zm BK101.out 0;have hfz15_1:=zm BK101.out 1;have hfz15_2:=zm BK101.out 2)|(go_at_call 107;(with_reducible refine (spec_boSide.calls a0_0 true _ A2.out).mono ?_);rintro e w' ⟨rfl,⟨nd,rfl⟩⟩;(try first|exact ⟨rfl,_,World.drewN_drewN _ _ _⟩|exact ⟨rfl,_,Eq.trans (World.drewN_drewN _ _ _) (congrArg (World.drewN _) (Nat.add_assoc _ _ _))⟩))|(go_at_call 107;(with_reducible refine (spec_boSide.calls a0_1 false _ A4.out).mono ?_);rintro e w' ⟨rfl,⟨nd,rfl⟩⟩;(try first|exact ⟨rfl,_,World.drewN_drewN _ _ _⟩|exact ⟨rfl,_,Eq.trans (World.drewN_drewN _ _ _) (congrArg (World.drewN _) (Nat.add_assoc _ _ _))⟩)))));(go_ret);exact ⟨by first|rfl|simp [*,errW_none,errW_some] <;> rfl,by repeat (first|(with_reducible first|exact HB.out|apply zc|apply zd|apply zb|refine ze ?_ GE101.out)|exact HB.out)⟩
 · replace c3:=Bool.eq_false_iff.mpr c3;subst c3;(have H1:(some false)=some r:=by rw [if_neg (show ¬ (false=true) by decide)] at H;exact H);clear H;have H:=H1;clear H1;obtain rfl:=Option.some.inj H;(go_enter Try.func101,Try.ntmps101);(go_wp2_with (first|((with_reducible refine zA (N:=1) rfl ?_);refine zF ?hg (N:=1) ?hd (cs:=#[.int .i64 a0_0,.int .i64 a0_1,.slice A0_2 l0_2.length c0_2]) (t:=43) ?hr ?_;(case hd=>rfl);(case hg=>rfl);(case hr=>first|(go_simp;done)|(go_simp;rfl));intro gb101 hg w16 hbox hb;have BK101:=za (hbox);have GW101:=za ((by rw [hg];exact (zo (by repeat (first|(with_reducible first|exact HB.out|apply zc|apply zd|apply zb)|exact HB.out))):w.heap.size≤gb101));have GE101:=za ((by rw [hg];exact (zo (by repeat (first|(with_reducible first|exact HB.out|apply zc|apply zd|apply zb)|exact HB.out))):w.heap.size≤gb101));replace HB:=za (zp (by repeat (first|(with_reducible first|exact HB.out|apply zc|apply zd|apply zb)|exact HB.out)) hb);clear hb hbox hg;have hcz17_0:w16.cell? ⟨gb101,0,none⟩=some (.int .i64 a0_0):=(zg BK101.out 0).trans rfl;have hcz17_1:w16.cell? ⟨gb101,1,none⟩=some (.int .i64 a0_1):=(zg BK101.out 1).trans rfl;have hcz17_2:w16.cell? ⟨gb101,2,none⟩=some (.slice A0_2 l0_2.length c0_2):=(zg BK101.out 2).trans rfl;have hfz17_0:=zm BK101.out 0;have hfz17_1:=zm BK101.out 1;have hfz17_2:=zm BK101.out 2)|(go_at_call 107;(with_reducible refine (spec_boSide.calls a0_0 false _ A2.out).mono ?_);rintro e w' ⟨rfl,⟨nd,rfl⟩⟩;(try first|exact ⟨rfl,_,World.drewN_drewN _ _ _⟩|exact ⟨rfl,_,Eq.trans (World.drewN_drewN _ _ _) (congrArg (World.drewN _) (Nat.add_assoc _ _ _))⟩))));(repeat (go_quiet (first|((with_reducible refine zA (N:=1) rfl ?_);refine zF ?hg (N:=1) ?hd (cs:=#[.int .i64 a0_0,.int .i64 a0_1,.slice A0_2 l0_2.length c0_2]) (t:=43) ?hr ?_;(case hd=>rfl);(case hg=>rfl);(case hr=>first|(go_simp;done)|(go_simp;rfl));intro gb101 hg w16 hbox hb;have BK101:=za (hbox);have GW101:=za ((by rw [hg];exact (zo (by repeat (first|(with_reducible first|exact HB.out|apply zc|apply zd|apply zb)|exact HB.out))):w.heap.size≤gb101));have GE101:=za ((by rw [hg];exact (zo (by repeat (first|(with_reducible first|exact HB.out|apply zc|apply zd|apply zb)|exact HB.out))):w.heap.size≤gb101));replace HB:=za (zp (by repeat (first|(with_reducible first|exact HB.out|apply zc|apply zd|apply zb)|exact HB.out)) hb);clear hb hbox hg;have hcz17_0:w16.cell? ⟨gb101,0,none⟩=some (.int .i64 a0_0):=(zg BK101.out 0).trans rfl;have hcz17_1:w16.cell? ⟨gb101,1,none⟩=some (.int .i64 a0_1):=(zg BK101.out 1).trans rfl;have hcz17_2:w16.cell? ⟨gb101,2,none⟩=some (.slice A0_2 l0_2.length c0_2):=(zg BK101.out 2).trans rfl;have hfz17_0:=zm BK101.out 0;have hfz17_1:=zm BK101.out 1;have hfz17_2:=zm BK101.out 2)|(go_at_call 107;(with_reducible refine (spec_boSide.calls a0_0 false _ A2.out).mono ?_);rintro e w' ⟨rfl,⟨nd,rfl⟩⟩;(try first|exact ⟨rfl,_,World.drewN_drewN _ _ _⟩|exact ⟨rfl,_,Eq.trans (World.drewN_drewN _ _ _) (congrArg (World.drewN _) (Nat.add_assoc _ _ _))⟩)));try go_wp2_with (first|((with_reducible refine zA (N:=1) rfl ?_);refine zF ?hg (N:=1) ?hd (cs:=#[.int .i64 a0_0,.int .i64 a0_1,.slice A0_2 l0_2.length c0_2]) (t:=43) ?hr ?_;(case hd=>rfl);(case hg=>rfl);(case hr=>first|(go_simp;done)|(go_simp;rfl));intro gb101 hg w16 hbox hb;have BK101:=za (hbox);have GW101:=za ((by rw [hg];exact (zo (by repeat (first|(with_reducible first|exact HB.out|apply zc|apply zd|apply zb)|exact HB.out))):w.heap.size≤gb101));have GE101:=za ((by rw [hg];exact (zo (by repeat (first|(with_reducible first|exact HB.out|apply zc|apply zd|apply zb)|exact HB.out))):w.heap.size≤gb101));replace HB:=za (zp (by repeat (first|(with_reducible first|exact HB.out|apply zc|apply zd|apply zb)|exact HB.out)) hb);clear hb hbox hg;have hcz17_0:w16.cell? ⟨gb101,0,none⟩=some (.int .i64 a0_0):=(zg BK101.out 0).trans rfl;have hcz17_1:w16.cell? ⟨gb101,1,none⟩=some (.int .i64 a0_1):=(zg BK101.out 1).trans rfl;have hcz17_2:w16.cell? ⟨gb101,2,none⟩=some (.slice A0_2 l0_2.length c0_2):=(zg BK101.out 2).trans rfl;have hfz17_0:=zm BK101.out 0;have hfz17_1:=zm BK101.out 1;have hfz17_2:=zm BK101.out 2)|(go_at_call 107;(with_reducible refine (spec_boSide.calls a0_0 false _ A2.out).mono ?_);rintro e w' ⟨rfl,⟨nd,rfl⟩⟩;(try first|exact ⟨rfl,_,World.drewN_drewN _ _ _⟩|exact ⟨rfl,_,Eq.trans (World.drewN_drewN _ _ _) (congrArg (World.drewN _) (Nat.add_assoc _ _ _))⟩)))));(go_ret);exact ⟨by first|rfl|simp [*,errW_none,errW_some] <;> rfl,by repeat (first|(with_reducible first|exact HB.out|apply zc|apply zd|apply zb|refine ze ?_ GE101.out)|exact HB.out)⟩
end Go.Proofs.Ytiopnmgcajohfaa.Q
end
section
namespace Go.Proofs.Ytiopnmgcajohfaa.Q
open Go.RowKit Go.Proofs.YtiopnmgcajohfaaW.PrintWords Go.Proofs.YtiopnmgcajohfaaW.PrintLast Go.Proofs.YtiopnmgcajohfaaW.PrintMore
attribute [local go_sem] max2_int min2_int max_two min_two max_three min_three max_four min_four   -- for this text's walks alone
set_option linter.unusedVariables false
set_option linter.unusedSimpArgs false
def spec_boHas.f (a0_0:Int) (a0_1:Int) (l0_2:List Int) (a1:Int) (a2:Int):Option (Bool):=if 0≤a1 then (if a1 < (l0_2.length:Int) then (if 0≤a2 then (some ((Int.tmod (shr .i64 (rd l0_2 a1) a2) 2) == 1)) else (none)) else (none)) else (none)
set_option maxHeartbeats 8000000 in
set_option maxRecDepth 100000 in
theorem spec_boHas.calls (a0_0:Int) (a0_1:Int) (A0_2:Option Addr) (c0_2:Nat) (l0_2:List Int) (a1:Int) (a2:Int) (r:Bool) (w:World) (hr0_2:Kd.C (Kd.int .i64) w A0_2 l0_2.length l0_2) (hc0_2:l0_2.length≤c0_2) (h:spec_boHas.f a0_0 a0_1 l0_2 a1 a2=some r) :
  Calls Try.prog 132 #[.agg #[.int .i64 a0_0,.int .i64 a0_1,.slice A0_2 l0_2.length c0_2],.int .i64 a1,.int .i64 a2] w fun e w'=>e=.returned (.bool r)∧Below w.heap.size w w':=by
 have hu43:=Try.underlying43;have HR0_2:=za hr0_2;have HC0_2:=za hc0_2;clear hr0_2 hc0_2;have HB:=za (Below.refl w.heap.size w);have H:(if 0≤a1 then (if a1 < (l0_2.length:Int) then (if 0≤a2 then (some ((Int.tmod (shr .i64 (rd l0_2 a1) a2) 2) == 1)) else (none)) else (none)) else (none))=some r:=h;clear h;by_cases c4:0≤a1
 ·
  rw [if_pos c4] at H;have c4b0:decide (0≤a1)=true:=decide_eq_true c4;clear c4;by_cases c5:a1 < (l0_2.length:Int)
  ·
   rw [if_pos c5] at H;have c5b0:decide (a1 < (l0_2.length:Int))=true:=decide_eq_true c5;clear c5;by_cases c6:0≤a2
   · rw [if_pos c6] at H;have c6b0:=eq_true c6;have c6b1:decide (0≤a2)=true:=decide_eq_true c6;clear c6;obtain ⟨ji7,hji7⟩:∃ j_:Int,(shr .i64 (rd l0_2 a1) a2)=j_:=⟨_,rfl⟩;(replace H:(some ((Int.tmod (ji7) 2) == 1))=some r:=by first|(rw [hji7] at H;exact H)|(simp only [hji7] at H ⊢;exact H));have hji7_:((rd l0_2 a1) / 2 ^ min a2.toNat 64)=ji7:=hji7;have hji7z:a2≤64→((rd l0_2 a1) / 2 ^ a2.toNat)=ji7:=shr_small hji7;obtain rfl:=Option.some.inj H;(go_enter Try.func132,Try.ntmps132);(go_wp2_with (first|((with_reducible refine zA (N:=3) rfl ?_);refine zF ?hg (N:=3) ?hd (cs:=#[.int .i64 a0_0,.int .i64 a0_1,.slice A0_2 l0_2.length c0_2]) (t:=43) ?hr ?_;(case hd=>rfl);(case hg=>rfl);(case hr=>first|(go_simp;done)|(go_simp;rfl));intro gb101 hg w8 hbox hb;have BK101:=za (hbox);have GW101:=za ((by rw [hg];exact (zo (by repeat (first|(with_reducible first|exact HB.out|apply zc|apply zd|apply zb)|exact HB.out))):w.heap.size≤gb101));have GE101:=za ((by rw [hg];exact (zo (by repeat (first|(with_reducible first|exact HB.out|apply zc|apply zd|apply zb)|exact HB.out))):w.heap.size≤gb101));replace HB:=za (zp (by repeat (first|(with_reducible first|exact HB.out|apply zc|apply zd|apply zb)|exact HB.out)) hb);clear hb hbox hg;have hcz9_0:w8.cell? ⟨gb101,0,none⟩=some (.int .i64 a0_0):=(zg BK101.out 0).trans rfl;have hcz9_1:w8.cell? ⟨gb101,1,none⟩=some (.int .i64 a0_1):=(zg BK101.out 1).trans rfl;have hcz9_2:w8.cell? ⟨gb101,2,none⟩=some (.slice A0_2 l0_2.length c0_2):=(zg BK101.out 2).trans rfl;have hfz9_0:=zm BK101.out 0;have hfz9_1:=zm BK101.out 1;have hfz9_2:=zm BK101.out 2;have p102:0≤(a1:Int):=of_decide_eq_true ‹_›;have q102:a1 < (l0_2.length:Int):=of_decide_eq_true ‹_›;obtain ⟨ad102,e102,hx102_0⟩:=Kd.at_int HR0_2.out a1 p102 q102;cases e102;replace hx102_0:=(HB.out.cell (World.block_lt_of_cell? w _ hx102_0)).trans hx102_0;replace p102:=eq_true p102;replace q102:=eq_true q102)));(go_ret);exact ⟨by first|rfl|(simp [errW_none,errW_some] <;> rfl)|(simp only [← hji7];first|rfl|(simp [errW_none,errW_some] <;> rfl))|(simp [*,errW_none,errW_some] <;> rfl),by repeat (first|(with_reducible first|exact HB.out|apply zc|apply zd|apply zb|refine ze ?_ GE101.out)|exact HB.out)⟩
   · rw [if_neg c6] at H;exact absurd H (by simp)
  · rw [if_neg c5] at H;exact absurd H (by simp)
 · rw [if_neg c4] at H;exact absurd H (by simp)
end Go.Proofs.Ytiopnmgcajohfaa.Q
end
section
namespace Go.Proofs.Ytiopnmgcajohfaa.Q
open Go.RowKit Go.Proofs.YtiopnmgcajohfaaW.PrintWords Go.Proofs.YtiopnmgcajohfaaW.PrintLast Go.Proofs.YtiopnmgcajohfaaW.PrintMore
attribute [local go_sem] max2_int min2_int max_two min_two max_three min_three max_four min_four   -- for this text's walks alone
set_option linter.unusedVariables false
set_option linter.unusedSimpArgs false
def impl_Board_has.f (a0_0:Int) (a0_1:Int) (l0_2:List Int) (a1:Int) (a2:Int):Option (Bool):=if 0≤a1 then (if a1 < (l0_2.length:Int) then (if 0≤a2 then (some ((Go.bits .and .i64 (shr .i64 (rd l0_2 a1) a2) 1) == 1)) else (none)) else (none)) else (none)
set_option maxHeartbeats 8000000 in
set_option maxRecDepth 100000 in
theorem impl_Board_has.calls (a0_0:Int) (a0_1:Int) (A0_2:Option Addr) (c0_2:Nat) (l0_2:List Int) (a1:Int) (a2:Int) (r:Bool) (w:World) (hr0_2:Kd.C (Kd.int .i64) w A0_2 l0_2.length l0_2) (hc0_2:l0_2.length≤c0_2) (h:impl_Board_has.f a0_0 a0_1 l0_2 a1 a2=some r) :
  Calls Try.prog 136 #[.agg #[.int .i64 a0_0,.int .i64 a0_1,.slice A0_2 l0_2.length c0_2],.int .i64 a1,.int .i64 a2] w fun e w'=>e=.returned (.bool r)∧Below w.heap.size w w':=by
 have hu43:=Try.underlying43;have HR0_2:=za hr0_2;have HC0_2:=za hc0_2;clear hr0_2 hc0_2;have HB:=za (Below.refl w.heap.size w);have H:(if 0≤a1 then (if a1 < (l0_2.length:Int) then (if 0≤a2 then (some ((Go.bits .and .i64 (shr .i64 (rd l0_2 a1) a2) 1) == 1)) else (none)) else (none)) else (none))=some r:=h;clear h;by_cases c4:0≤a1
 ·
  rw [if_pos c4] at H;have c4b0:decide (0≤a1)=true:=decide_eq_true c4;clear c4;by_cases c5:a1 < (l0_2.length:Int)
  ·
   rw [if_pos c5] at H;have c5b0:decide (a1 < (l0_2.length:Int))=true:=decide_eq_true c5;clear c5;by_cases c6:0≤a2
   · rw [if_pos c6] at H;have c6b0:=eq_true c6;have c6b1:decide (0≤a2)=true:=decide_eq_true c6;clear c6;obtain ⟨ji7,hji7⟩:∃ j_:Int,(shr .i64 (rd l0_2 a1) a2)=j_:=⟨_,rfl⟩;(replace H:(some ((Go.bits .and .i64 (ji7) 1) == 1))=some r:=by first|(rw [hji7] at H;exact H)|(simp only [hji7] at H ⊢;exact H));have hji7_:((rd l0_2 a1) / 2 ^ min a2.toNat 64)=ji7:=hji7;have hji7z:a2≤64→((rd l0_2 a1) / 2 ^ a2.toNat)=ji7:=shr_small hji7;obtain rfl:=Option.some.inj H;(go_enter Try.func136,Try.ntmps136);(go_wp2_with (first|((with_reducible refine zA (N:=3) rfl ?_);refine zF ?hg (N:=3) ?hd (cs:=#[.int .i64 a0_0,.int .i64 a0_1,.slice A0_2 l0_2.length c0_2]) (t:=43) ?hr ?_;(case hd=>rfl);(case hg=>rfl);(case hr=>first|(go_simp;done)|(go_simp;rfl));intro gb101 hg w8 hbox hb;have BK101:=za (hbox);have GW101:=za ((by rw [hg];exact (zo (by repeat (first|(with_reducible first|exact HB.out|apply zc|apply zd|apply zb)|exact HB.out))):w.heap.size≤gb101));have GE101:=za ((by rw [hg];exact (zo (by repeat (first|(with_reducible first|exact HB.out|apply zc|apply zd|apply zb)|exact HB.out))):w.heap.size≤gb101));replace HB:=za (zp (by repeat (first|(with_reducible first|exact HB.out|apply zc|apply zd|apply zb)|exact HB.out)) hb);clear hb hbox hg;have hcz9_0:w8.cell? ⟨gb101,0,none⟩=some (.int .i64 a0_0):=(zg BK101.out 0).trans rfl;have hcz9_1:w8.cell? ⟨gb101,1,none⟩=some (.int .i64 a0_1):=(zg BK101.out 1).trans rfl;have hcz9_2:w8.cell? ⟨gb101,2,none⟩=some (.slice A0_2 l0_2.length c0_2):=(zg BK101.out 2).trans rfl;have hfz9_0:=zm BK101.out 0;have hfz9_1:=zm BK101.out 1;have hfz9_2:=zm BK101.out 2;have p102:0≤(a1:Int):=of_decide_eq_true ‹_›;have q102:a1 < (l0_2.length:Int):=of_decide_eq_true ‹_›;obtain ⟨ad102,e102,hx102_0⟩:=Kd.at_int HR0_2.out a1 p102 q102;cases e102;replace hx102_0:=(HB.out.cell (World.block_lt_of_cell? w _ hx102_0)).trans hx102_0;replace p102:=eq_true p102;replace q102:=eq_true q102)));(go_ret);exact ⟨by first|rfl|(simp [errW_none,errW_some] <;> rfl)|(simp only [← hji7];first|rfl|(simp [errW_none,errW_some] <;> rfl))|(simp [*,errW_none,errW_some] <;> rfl),by repeat (first|(with_reducible first|exact HB.out|apply zc|apply zd|apply zb|refine ze ?_ GE101.out)|exact HB.out)⟩
   · rw [if_neg c6] at H;exact absurd H (by simp)
  · rw [if_neg c5] at H;exact absurd H (by simp)
 · rw [if_neg c4] at H;exact absurd H (by simp)
end Go.Proofs.Ytiopnmgcajohfaa.Q
end
section
namespace Go.Proofs.Ytiopnmgcajohfaa.Q
open Go.RowKit Go.Proofs.YtiopnmgcajohfaaW.PrintWords Go.Proofs.YtiopnmgcajohfaaW.PrintLast Go.Proofs.YtiopnmgcajohfaaW.PrintMore
attribute [local go_sem] max2_int min2_int max_two min_two max_three min_three max_four min_four   -- for this text's walks alone
set_option linter.unusedVariables false
set_option linter.unusedSimpArgs false
end Go.Proofs.Ytiopnmgcajohfaa.Q
end
section
namespace Go.Proofs.Ytiopnmgcajohfaa.Q
open Go.RowKit Go.Proofs.YtiopnmgcajohfaaW.PrintWords Go.Proofs.YtiopnmgcajohfaaW.PrintLast Go.Proofs.YtiopnmgcajohfaaW.PrintMore
attribute [local go_sem] max2_int min2_int max_two min_two max_three min_three max_four min_four   -- for this text's walks alone
set_option linter.unusedVariables false
set_option linter.unusedSimpArgs false
end Go.Proofs.Ytiopnmgcajohfaa.Q
end
section
namespace Go.Proofs.Ytiopnmgcajohfaa.Q
open Go.RowKit Go.Proofs.YtiopnmgcajohfaaW.PrintWords Go.Proofs.YtiopnmgcajohfaaW.PrintLast Go.Proofs.YtiopnmgcajohfaaW.PrintMore
attribute [local go_sem] max2_int min2_int max_two min_two max_three min_three max_four min_four   -- for this text's walks alone
set_option linter.unusedVariables false
set_option linter.unusedSimpArgs false
end Go.Proofs.Ytiopnmgcajohfaa.Q
end
section
namespace Go.Proofs.Ytiopnmgcajohfaa.Q
open Go.RowKit Go.Proofs.YtiopnmgcajohfaaW.PrintWords Go.Proofs.YtiopnmgcajohfaaW.PrintLast Go.Proofs.YtiopnmgcajohfaaW.PrintMore
attribute [local go_sem] max2_int min2_int max_two min_two max_three min_three max_four min_four   -- for this text's walks alone
set_option linter.unusedVariables false
set_option linter.unusedSimpArgs false
end Go.Proofs.Ytiopnmgcajohfaa.Q
end
section
namespace Go.Proofs.Ytiopnmgcajohfaa.Q
open Go.RowKit Go.Proofs.YtiopnmgcajohfaaW.PrintWords Go.Proofs.YtiopnmgcajohfaaW.PrintLast Go.Proofs.YtiopnmgcajohfaaW.PrintMore
attribute [local go_sem] max2_int min2_int max_two min_two max_three min_three max_four min_four   -- for this text's walks alone
set_option linter.unusedVariables false
set_option linter.unusedSimpArgs false
end Go.Proofs.Ytiopnmgcajohfaa.Q
end
section
namespace Go.Proofs.Ytiopnmgcajohfaa.Q
open Go.RowKit Go.Proofs.YtiopnmgcajohfaaW.PrintWords Go.Proofs.YtiopnmgcajohfaaW.PrintLast Go.Proofs.YtiopnmgcajohfaaW.PrintMore
attribute [local go_sem] max2_int min2_int max_two min_two max_three min_three max_four min_four   -- for this text's walks alone
set_option linter.unusedVariables false
set_option linter.unusedSimpArgs false
end Go.Proofs.Ytiopnmgcajohfaa.Q
end
section
namespace Go.Proofs.Ytiopnmgcajohfaa.Q
open Go.RowKit Go.Proofs.YtiopnmgcajohfaaW.PrintWords Go.Proofs.YtiopnmgcajohfaaW.PrintLast Go.Proofs.YtiopnmgcajohfaaW.PrintMore
attribute [local go_sem] max2_int min2_int max_two min_two max_three min_three max_four min_four   -- for this text's walks alone
set_option linter.unusedVariables false
set_option linter.unusedSimpArgs false
end Go.Proofs.Ytiopnmgcajohfaa.Q
end
section
namespace Go.Proofs.Ytiopnmgcajohfaa.Q
open Go.RowKit Go.Proofs.YtiopnmgcajohfaaW.PrintWords Go.Proofs.YtiopnmgcajohfaaW.PrintLast Go.Proofs.YtiopnmgcajohfaaW.PrintMore
attribute [local go_sem] max2_int min2_int max_two min_two max_three min_three max_four min_four   -- for this text's walks alone
set_option linter.unusedVariables false
set_option linter.unusedSimpArgs false
end Go.Proofs.Ytiopnmgcajohfaa.Q
end
section
namespace Go.Proofs.Ytiopnmgcajohfaa.LawK
set_option linter.unusedVariables false
open Go.RowKit Go.Proofs.Ytiopnmgcajohfaa.Q Go.Proofs.YtiopnmgcajohfaaW.PrintWords Go.Proofs.YtiopnmgcajohfaaW.PrintLast Go.Proofs.YtiopnmgcajohfaaW.PrintMore
open Go.Proofs.YtiopnmgcajohfaaL
def iota : Int → Nat → List Int
  | _, 0 => []
  | m, n + 1 => m :: iota (m + 1) n
theorem iota_length : ∀ (m : Int) (n : Nat), (iota m n).length = n
  | _, 0 => rfl
  | m, n + 1 => by rw [iota, List.length_cons, iota_length]
theorem iota_get : ∀ (n : Nat) (m : Int) (i : Nat) (h : i < (iota m n).length), (iota m n)[i] = m + i
  | 0, _, _, h => by simp [iota] at h
  | n + 1, m, 0, _ => by simp [iota]
  | n + 1, m, i + 1, h => by
    have := iota_get n (m + 1) i (by simpa [iota] using h)
    simp only [iota, List.getElem_cons_succ, this]; omega
theorem iota_snoc : ∀ (n : Nat) (m : Int), iota m (n + 1) = iota m n ++ [m + n]
  | 0, m => by simp [iota]
  | n + 1, m => by
    rw [iota, iota_snoc n (m + 1), iota, List.cons_append]
    congr 2
    simp; omega
theorem ends {g : Nat → Option Bool} (h : Ev g true) : ∃ k, g k = some true := h.rounds
end Go.Proofs.Ytiopnmgcajohfaa.LawK
end
section
namespace Go.Proofs.Ytiopnmgcajohfaa.BoardK
set_option linter.unusedVariables false
open Go.RowKit Go.Proofs.Ytiopnmgcajohfaa.Q Go.Proofs.YtiopnmgcajohfaaW.PrintWords Go.Proofs.YtiopnmgcajohfaaW.PrintLast Go.Proofs.YtiopnmgcajohfaaW.PrintMore
open Go.Proofs.YtiopnmgcajohfaaL Go.Proofs.Ytiopnmgcajohfaa.LawK
def inR (lo hi x : Int) : Bool := decide (lo ≤ x ∧ x ≤ hi)
theorem l1In_f (a b c : Int) : spec_l1In.f a b c = some (inR b c a) := by
  unfold spec_l1In.f inR
  by_cases h : a ≥ b
  · rw [if_pos h]; simp [h]
  · rw [if_neg h]; congr 1; exact (decide_eq_false (by omega)).symm
theorem l1All_l0 {l : List Int} (lo hi : Int) (hl : l.length ≤ 4611686018427387904) : ∀ (d i : Nat), i + d = l.length → Ev (fun k => spec_l1All.l0 k lo hi l (l.length : Int) i) ((l.drop i).all (inR lo hi))
  | 0, i, hi' => by
    refine Ev.step (f := fun _ => some ((l.drop i).all (inR lo hi))) (fun k => ?_) (Ev.now _)
    rw [spec_l1All.l0, if_neg (by omega), List.drop_eq_nil_of_le (by omega)]; rfl
  | d + 1, i, hi' => by
    have h1 : wrap64 ((i : Int) + 1) = ((i + 1 : Nat) : Int) := by rw [w64 (by omega) (by omega)]; rfl
    have hi2 : i < l.length := by omega
    rw [List.drop_eq_getElem_cons hi2, List.all_cons]
    by_cases e : inR lo hi l[i] = true
    · rw [e, Bool.true_and]
      refine Ev.step (fun k => ?_) (l1All_l0 lo hi hl d (i + 1) (by omega))
      rw [spec_l1All.l0, if_pos (by omega), if_pos (by omega), if_pos (by omega), l1In_f, Option.bind_some, rd_lt _ _ hi2, if_pos e, h1]
    · have e' : inR lo hi l[i] = false := by simpa using e
      rw [e', Bool.false_and]
      refine Ev.step (f := fun _ => some false) (fun k => ?_) (Ev.now _)
      rw [spec_l1All.l0, if_pos (by omega), if_pos (by omega), if_pos (by omega), l1In_f, Option.bind_some, rd_lt _ _ hi2, if_neg e]
theorem l1All {l : List Int} (lo hi : Int) (hl : l.length ≤ 4611686018427387904) : Ev (fun k => spec_l1All.f k l lo hi) (l.all (inR lo hi)) := by
  refine Ev.congr (fun k => ?_) (l1All_l0 lo hi hl l.length 0 (by omega))
  unfold spec_l1All.f; rfl
theorem boSide_f (a : Int) : spec_boSide.f a = some (inR 1 6 a) := by unfold spec_boSide.f; rw [l1In_f]; rfl
theorem rowIn_inR {c : Int} : rowIn c = inR 0 (2 ^ c.toNat - 1) := rfl
theorem boGood {l : List Int} (r c : Int) (hl : l.length ≤ 4611686018427387904) : Ev (fun k => spec_boGood.f k r c l) (isBoardB r c l) := by
  unfold spec_boGood.f
  by_cases h1 : 1 ≤ r ∧ r ≤ 6
  · refine Ev.congr (fun k => by rw [boSide_f, Option.bind_some, if_pos (show inR 1 6 r = true from decide_eq_true h1)]) ?_
    by_cases h2 : 1 ≤ c ∧ c ≤ 6
    · refine Ev.congr (fun k => by rw [boSide_f, Option.bind_some, if_pos (show inR 1 6 c = true from decide_eq_true h2)]) ?_
      by_cases h3 : (l.length : Int) = r
      · refine Ev.congr (fun k => by rw [if_pos h3, if_pos (by omega : 0 ≤ c)]) ?_
        have e : wrap64 (shl .i64 1 c - 1) = 2 ^ c.toNat - 1 := by
          obtain ⟨n, rfl⟩ : ∃ n : Nat, c = n := ⟨c.toNat, by omega⟩
          have h4 : 2 ^ n ≤ 2 ^ 6 := Nat.pow_le_pow_right (by decide) (by omega)
          have h5 : 0 < 2 ^ n := Nat.two_pow_pos n
          rw [shl_one n (by omega), w64 (by omega) (by omega), Int.toNat_natCast]; simp
        have eb : isBoardB r c l = l.all (inR 0 (2 ^ c.toNat - 1)) := by
          unfold isBoardB
          rw [decide_eq_true ⟨h1.1, h1.2, h2.1, h2.2, h3⟩, Bool.true_and, rowIn_inR]
        rw [e, eb]
        exact Ev.bind (l1All _ _ hl) (Ev.now _)
      · have eb : isBoardB r c l = false := by unfold isBoardB; rw [decide_eq_false (fun h => h3 h.2.2.2.2), Bool.false_and]
        rw [eb]
        exact Ev.congr (fun k => by rw [if_neg h3]) (Ev.now _)
    · have eb : isBoardB r c l = false := by unfold isBoardB; rw [decide_eq_false (fun h => h2 ⟨h.2.2.1, h.2.2.2.1⟩), Bool.false_and]
      rw [eb]
      exact Ev.congr (fun k => by rw [boSide_f, Option.bind_some, if_neg (by simp [inR, h2])]) (Ev.now _)
  · have eb : isBoardB r c l = false := by unfold isBoardB; rw [decide_eq_false (fun h => h1 ⟨h.1, h.2.1⟩), Bool.false_and]
    rw [eb]
    exact Ev.congr (fun k => by rw [boSide_f, Option.bind_some, if_neg (by simp [inR, h1])]) (Ev.now _)
def cell (l : List Int) (r c : Nat) : Bool := (l.getD r 0).toNat.testBit c
theorem board_of {r c : Int} {l : List Int} (h : isBoardB r c l = true) : ∃ R C : Nat, r = R ∧ c = C ∧ l.length = R ∧ 1 ≤ R ∧ R ≤ 6 ∧ 1 ≤ C ∧ C ≤ 6 ∧ ∀ i (hi : i < l.length), 0 ≤ l[i] ∧ l[i] < 2 ^ C := by
  unfold isBoardB at h
  simp only [Bool.and_eq_true, decide_eq_true_eq, List.all_eq_true] at h
  obtain ⟨⟨h1, h2, h3, h4, h5⟩, h6⟩ := h
  refine ⟨r.toNat, c.toNat, by omega, by omega, by omega, by omega, by omega, by omega, by omega, fun i hi => ?_⟩
  have := h6 l[i] (List.getElem_mem hi)
  unfold rowIn at this
  simp only [decide_eq_true_eq] at this
  omega
theorem two_pow_six {C : Nat} (h : C ≤ 6) : (2 : Int) ^ C ≤ 64 := by
  have : 2 ^ C ≤ 2 ^ 6 := Nat.pow_le_pow_right (by decide) h
  exact_mod_cast this
theorem boHas_f {l : List Int} (r c : Int) {i j : Nat} (hi : i < l.length) (h0 : 0 ≤ l[i]) (h1 : l[i] < 64) (hj : j ≤ 64) : spec_boHas.f r c l i j = some (cell l i j) := by
  unfold spec_boHas.f
  rw [if_pos (by omega), if_pos (by omega), if_pos (by omega), rd_lt _ _ hi]
  obtain ⟨m, hm⟩ : ∃ m : Nat, l[i] = m := ⟨l[i].toNat, by omega⟩
  rw [hm, bit_mod m j hj]
  unfold cell
  rw [gD_lt _ _ hi, hm, Int.toNat_natCast]
  by_cases hb : m.testBit j = true <;> simp [hb]
theorem has_f {l : List Int} (r c : Int) {i j : Nat} (hi : i < l.length) (h0 : 0 ≤ l[i]) (h1 : l[i] < 64) (hj : j ≤ 64) : impl_Board_has.f r c l i j = some (cell l i j) := by
  unfold impl_Board_has.f
  rw [if_pos (by omega), if_pos (by omega), if_pos (by omega), rd_lt _ _ hi]
  obtain ⟨m, hm⟩ : ∃ m : Nat, l[i] = m := ⟨l[i].toNat, by omega⟩
  rw [hm, bit_and m j (by omega) hj]
  unfold cell
  rw [gD_lt _ _ hi, hm, Int.toNat_natCast]
  by_cases hb : m.testBit j = true <;> simp [hb]
end Go.Proofs.Ytiopnmgcajohfaa.BoardK
end
section
namespace Go.Proofs.Ytiopnmgcajohfaa.Walk
set_option linter.unusedVariables false
open Go.RowKit Go.Proofs.YtiopnmgcajohfaaW.PrintWords Go.Proofs.YtiopnmgcajohfaaW.PrintLast Go.Proofs.YtiopnmgcajohfaaW.PrintMore
open Go.Proofs.YtiopnmgcajohfaaL Go.Proofs.Ytiopnmgcajohfaa.LawK Go.Proofs.Ytiopnmgcajohfaa.BoardK
def colWays (l : List Int) (r t : Nat) (pre : List Int) (next : Nat → List Int → List (List Int)) (c : Int) : List (List Int) :=
  if c < 0 then next t (pre ++ [c])
  else if cell l r c.toNat && !t.testBit c.toNat then next (t ||| 2 ^ c.toNat) (pre ++ [c]) else []
def waysFrom (l : List Int) (C : Nat) : Nat → Nat → Nat → List Int → List (List Int)
  | 0, _, _, pre => [pre]
  | d + 1, r, t, pre => (iota (-1) (C + 1)).flatMap (colWays l r t pre (waysFrom l C d (r + 1)))
theorem iota_cut : ∀ (j n : Nat) (m : Int), j < n → iota m n = iota m j ++ (m + j) :: iota (m + j + 1) (n - j - 1)
  | 0, n + 1, m, _ => by rw [iota, iota]; simp
  | j + 1, n + 1, m, h => by
    rw [iota, iota, iota_cut j n (m + 1) (by omega), List.cons_append]
    have e1 : m + 1 + (j : Int) = m + ((j + 1 : Nat) : Int) := by omega
    rw [e1, show n + 1 - (j + 1) - 1 = n - j - 1 by omega]
theorem ways_cut (l : List Int) (C d r t : Nat) (pre : List Int) (j : Nat) (hj : j < C + 1) {x : Int} (hx : x = -1 + j) :
    waysFrom l C (d + 1) r t pre = (iota (-1) j).flatMap (colWays l r t pre (waysFrom l C d (r + 1))) ++ (colWays l r t pre (waysFrom l C d (r + 1)) x ++ (iota (x + 1) (C + 1 - j - 1)).flatMap (colWays l r t pre (waysFrom l C d (r + 1)))) := by
  rw [waysFrom, iota_cut j (C + 1) (-1) hj, List.flatMap_append, List.flatMap_cons, hx]
theorem ways_len (l : List Int) (C : Nat) : ∀ (d r t : Nat) (pre : List Int), (waysFrom l C d r t pre).length ≤ (C + 1) ^ d
  | 0, r, t, pre => by simp [waysFrom]
  | d + 1, r, t, pre => by
    have hc : ∀ c, (colWays l r t pre (waysFrom l C d (r + 1)) c).length ≤ (C + 1) ^ d := by
      intro c
      unfold colWays
      split
      · exact ways_len l C d (r + 1) _ _
      · split
        · exact ways_len l C d (r + 1) _ _
        · exact Nat.zero_le _
    have hf : ∀ (n : Nat) (m : Int), ((iota m n).flatMap (colWays l r t pre (waysFrom l C d (r + 1)))).length ≤ n * (C + 1) ^ d := by
      intro n
      induction n with
      | zero => intro m; simp [iota]
      | succ n ih =>
        intro m
        rw [iota, List.flatMap_cons, List.length_append, Nat.succ_mul]
        have h1 := hc m
        have h2 := ih (m + 1)
        omega
    rw [waysFrom, Nat.pow_succ, Nat.mul_comm]
    exact hf (C + 1) (-1)
structure Blks where (b d a p g r : Nat)
structure Blks.Apart (k : Blks) : Prop where
  bd : k.b ≠ k.d
  ba : k.b ≠ k.a
  bp : k.b ≠ k.p
  bg : k.b ≠ k.g
  br : k.b ≠ k.r
  da : k.d ≠ k.a
  dp : k.d ≠ k.p
  dg : k.d ≠ k.g
  dr : k.d ≠ k.r
  ap : k.a ≠ k.p
  ag : k.a ≠ k.g
  ar : k.a ≠ k.r
  pg : k.p ≠ k.g
  pr : k.p ≠ k.r
  gr : k.g ≠ k.r
def Blks.has (k : Blks) (i : Nat) : Prop := i = k.b ∨ i = k.d ∨ i = k.a ∨ i = k.p ∨ i = k.g ∨ i = k.r
structure Still (S : Nat → Prop) (w w' : World) : Prop where
  kept : Kept w w' S
  os : w'.os = w.os
  tape : w'.tape = w.tape
  output : w'.output = w.output
theorem Still.refl (S : Nat → Prop) (w : World) : Still S w w := ⟨Kept.refl _ _, rfl, rfl, rfl⟩
theorem Still.of_below {S : Nat → Prop} {w w' : World} (h : Below w.heap.size w w') : Still S w w' := ⟨Kept.of_below h S, h.os, h.tape, h.output⟩
theorem Still.set {S : Nat → Prop} (w : World) {a : Addr} (h : S a.block) (v : Value) : Still S w (w.setCell a v) := ⟨Kept.setCell (Kept.refl _ _) (.inl h) v, rfl, rfl, rfl⟩
theorem Still.drewN {S : Nat → Prop} (w : World) (n : Nat) : Still S w (w.drewN n) := ⟨Kept.drewN (Kept.refl _ _) n, rfl, rfl, rfl⟩
theorem Still.trans {S : Nat → Prop} {a b c : World} (h : Still S a b) (k : Still S b c) : Still S a c := ⟨h.kept.then_ k.kept (fun _ hk => .inl hk), k.os.trans h.os, k.tape.trans h.tape, k.output.trans h.output⟩
theorem Still.below {S : Nat → Prop} {w0 w w' : World} (h : Below w0.heap.size w0 w) (k : Still S w w') (hS : ∀ i, S i → w0.heap.size ≤ i) : Below w0.heap.size w0 w' :=
  ⟨k.os.trans h.os, k.tape.trans h.tape, k.output.trans h.output, Nat.le_trans h.size k.kept.1, fun i hi => (k.kept.2 i (Nat.lt_of_lt_of_le hi h.size) (fun hs => by have := hS i hs; omega)).trans (h.block i hi)⟩
structure WSt (k : Blks) (Inv : List (List Int) → World → Prop) (RI CI : Int) (n cp : Nat) (l : List Int) (A0 : Option Addr) (c0 : Nat) (F : Value) (vis : List (List Int)) (ps : List Int) (w : World) : Prop where
  cB : w.heap[k.b]? = some (.cells #[.int .i64 RI, .int .i64 CI, .slice A0 l.length c0] 43 (0, 0))
  cD : w.heap[k.d]? = some (.cells #[F] 37 (0, 0))
  cA : Kd.R (Kd.int .i64) 3 w 0 (fun i => i = k.a) (.slice (some ⟨k.a, 0, none⟩) n cp) ps
  cP : w.heap[k.p]? = some (.cells #[.slice (some ⟨k.a, 0, none⟩) n cp] 28 (0, 0))
  cG : w.heap[k.g]? = some (.cells #[.bool true] 4 (0, 0))
  cR : w.heap[k.r]? = some (.cells #[.func (.func 152) #[] #[.pointer (some ⟨k.b, 0, none⟩), .pointer (some ⟨k.d, 0, none⟩), .pointer (some ⟨k.p, 0, none⟩), .pointer (some ⟨k.g, 0, none⟩), .pointer (some ⟨k.r, 0, none⟩)]] 106 (0, 0))
  inv : Inv vis w
section
variable {k : Blks} {Inv : List (List Int) → World → Prop} {RI CI : Int} {n cp : Nat} {l : List Int} {A0 : Option Addr} {c0 : Nat} {F : Value} {vis : List (List Int)} {ps : List Int} {w w' : World}
theorem WSt.below (hI : ∀ vis w w', Inv vis w → Still k.has w w' → Inv vis w') (h : WSt k Inv RI CI n cp l A0 c0 F vis ps w) (hb : Below w.heap.size w w') : WSt k Inv RI CI n cp l A0 c0 F vis ps w' :=
  ⟨blk_below h.cB hb, blk_below h.cD hb, Kd.R_below h.cA hb, blk_below h.cP hb, blk_below h.cG hb, blk_below h.cR hb, hI _ _ _ h.inv (Still.of_below hb)⟩
theorem WSt.drewN (hI : ∀ vis w w', Inv vis w → Still k.has w w' → Inv vis w') (h : WSt k Inv RI CI n cp l A0 c0 F vis ps w) (m : Nat) : WSt k Inv RI CI n cp l A0 c0 F vis ps (w.drewN m) :=
  h.below hI (pw_below_drewN (Below.refl _ _) m)
theorem WSt.setA (hI : ∀ vis w w', Inv vis w → Still k.has w w' → Inv vis w') (hk : k.Apart) (h : WSt k Inv RI CI n cp l A0 c0 F vis ps w) (i c : Int) : WSt k Inv RI CI n cp l A0 c0 F vis (ps.set i.toNat c) (w.setCell ⟨k.a, i.toNat, none⟩ (.int .i64 c)) :=
  ⟨blk_far h.cB hk.ba _, blk_far h.cD hk.da _, Kd.R_putn h.cA i c, blk_far h.cP hk.ap.symm _, blk_far h.cG hk.ag.symm _, blk_far h.cR hk.ar.symm _, hI _ _ _ h.inv (Still.set w (.inr (.inr (.inl rfl))) _)⟩
theorem WSt.setG (hI : ∀ vis w w', Inv vis w → Still k.has w w' → Inv vis w') (hk : k.Apart) (h : WSt k Inv RI CI n cp l A0 c0 F vis ps w) : WSt k Inv RI CI n cp l A0 c0 F vis ps (w.setCell ⟨k.g, 0, none⟩ (.bool true)) :=
  ⟨blk_far h.cB hk.bg _, blk_far h.cD hk.dg _, Kd.R_far h.cA (fun i hi => by rw [hi]; exact hk.ag) _, blk_far h.cP hk.pg _, blk_put h.cG 0 _ rfl, blk_far h.cR hk.gr.symm _, hI _ _ _ h.inv (Still.set w (.inr (.inr (.inr (.inr (.inl rfl))))) _)⟩
end
end Go.Proofs.Ytiopnmgcajohfaa.Walk
end
section
namespace Go.Proofs.Ytiopnmgcajohfaa.Q
open Go.RowKit Go.Proofs.YtiopnmgcajohfaaW.PrintWords Go.Proofs.YtiopnmgcajohfaaW.PrintLast Go.Proofs.YtiopnmgcajohfaaW.PrintMore
attribute [local go_sem] max2_int min2_int max_two min_two max_three min_three max_four min_four   -- for this text's walks alone
set_option linter.unusedVariables false
set_option linter.unusedSimpArgs false
def impl_rooks.l0:Nat→Int→List Int→Int→Int→Option (Int)
|0,_,_,_,_=>none
|k + 1,x3,x6,x7,x8=>if x8 < x7 then (if 0≤x8 then (if x8 < (x6.length:Int) then (if (rd x6 x8)=(-1) then (impl_rooks.l0 k x3 x6 x7 (wrap64 (x8 + 1))) else (impl_rooks.l0 k (wrap64 (x3 + 1)) x6 x7 (wrap64 (x8 + 1)))) else (none)) else (none)) else (some x3)
def impl_rooks.f (k:Nat) (l0:List Int):Option (Int):=impl_rooks.l0 k 0 l0 (l0.length:Int) 0
set_option maxHeartbeats 8000000 in
set_option maxRecDepth 100000 in
theorem impl_rooks.calls (k:Nat) (A0:Option Addr) (c0:Nat) (l0:List Int) (r:Int) (w:World) (hr0:Kd.C (Kd.int .i64) w A0 l0.length l0) (hc0:l0.length≤c0) (h:impl_rooks.f k l0=some r) :
  Calls Try.prog 141 #[.slice A0 l0.length c0] w fun e w'=>e=.returned (.int .i64 r)∧Drawn0 w w':=by
 have HR0:=za hr0;have HC0:=za hc0;clear hr0 hc0;have H:(impl_rooks.l0 k 0 l0 (l0.length:Int) 0)=some r:=h;clear h;have H':=za H;clear H;(go_enter Try.func141,Try.ntmps141);(go_wp2);(go_loopg [3,8] k (fun kq v3 v8 w'=>∃ (x3_1:Int) (x8_1:Int),v3=.int .i64 x3_1∧v8=.int .i64 x8_1∧Aside0 (impl_rooks.l0 kq x3_1 l0 (l0.length:Int) x8_1=some r)∧Aside0 (kq≤k)∧Drawn0 w w'));case atStart=>exact ⟨(0),(0),(by first|rfl|(simp;done)|(simp [*];done)),(by first|rfl|(simp;done)|(simp [*];done)),H',⟨Nat.le_refl _⟩,by repeat (first|exact Drawn0.refl _|apply Drawn0.step)⟩
 case round =>
  clear H';(try clear c1);obtain ⟨x3_1,x8_1,rfl,rfl,HA,HK1,⟨m1,rfl⟩⟩:=hrel
  cases gk with
 |zero=>exact absurd HA.out (by simp [impl_rooks.l0])
 |succ k1 =>
   have H:=HA.out;clear HA;simp only [impl_rooks.l0] at H;by_cases c2:x8_1 < (l0.length:Int)
   ·
    rw [if_pos c2] at H;have c2b0:decide (x8_1 < (l0.length:Int))=true:=decide_eq_true c2;clear c2;by_cases c3:0≤x8_1
    ·
     rw [if_pos c3] at H;have c3b0:decide (0≤x8_1)=true:=decide_eq_true c3;clear c3;by_cases c4:x8_1 < (l0.length:Int)
     ·
      rw [if_pos c4] at H;have c4b0:decide (x8_1 < (l0.length:Int))=true:=decide_eq_true c4;clear c4;by_cases c5:(rd l0 x8_1)=(-1)
      · rw [if_pos c5] at H;have c5b0:((rd l0 x8_1) == (-1))=true:=beq_iff_eq.mpr c5;have c5b1:((rd l0 x8_1) != (-1))=false:=bne_eq_false_iff_eq.mpr c5;clear c5;have H':=za H;clear H;have p101:0≤(x8_1:Int):=of_decide_eq_true ‹_›;have q101:x8_1 < (l0.length:Int):=of_decide_eq_true ‹_›;obtain ⟨ad101,e101,hx101_0⟩:=Kd.at_int HR0.out x8_1 p101 q101;cases e101;replace p101:=eq_true p101;replace q101:=eq_true q101;(go_wp2);(go_roundg k1);(case measure=>have:=HK1.out;omega);case rel=>exact ⟨(x3_1),(wrap64 (x8_1 + 1)),(by first|rfl|(simp;done)|(simp [*];done)),(by first|rfl|(simp;done)|(simp [*];done)),H',⟨by have:=HK1.out;omega⟩,by repeat (first|exact Drawn0.refl _|apply Drawn0.step)⟩
      · rw [if_neg c5] at H;have c5b0:((rd l0 x8_1) == (-1))=false:=beq_eq_false_iff_ne.mpr c5;have c5b1:((rd l0 x8_1) != (-1))=true:=bne_iff_ne.mpr c5;have H':=za H;clear H;have p101:0≤(x8_1:Int):=of_decide_eq_true ‹_›;have q101:x8_1 < (l0.length:Int):=of_decide_eq_true ‹_›;obtain ⟨ad101,e101,hx101_0⟩:=Kd.at_int HR0.out x8_1 p101 q101;cases e101;replace p101:=eq_true p101;replace q101:=eq_true q101;(go_wp2);(go_roundg k1);(case measure=>have:=HK1.out;omega);case rel=>exact ⟨(wrap64 (x3_1 + 1)),(wrap64 (x8_1 + 1)),(by first|rfl|(simp;done)|(simp [*];done)),(by first|rfl|(simp;done)|(simp [*];done)),H',⟨by have:=HK1.out;omega⟩,by repeat (first|exact Drawn0.refl _|apply Drawn0.step)⟩
     · rw [if_neg c4] at H;exact absurd H (by simp)
    · rw [if_neg c3] at H;exact absurd H (by simp)
   · rw [if_neg c2] at H;have c2b0:decide (x8_1 < (l0.length:Int))=false:=decide_eq_false c2;clear c2;obtain rfl:=Option.some.inj H;(go_wp2);(go_ret);exact ⟨by first|rfl|(simp;done)|(simp [*];done),by repeat (first|exact Drawn0.refl _|apply Drawn0.step)⟩
end Go.Proofs.Ytiopnmgcajohfaa.Q
end
section
namespace Go.Proofs.Ytiopnmgcajohfaa.Walk
set_option linter.unusedVariables false
open Go.RowKit Go.Proofs.YtiopnmgcajohfaaW.PrintWords Go.Proofs.YtiopnmgcajohfaaW.PrintLast Go.Proofs.YtiopnmgcajohfaaW.PrintMore
open Go.Proofs.YtiopnmgcajohfaaL Go.Proofs.Ytiopnmgcajohfaa.LawK Go.Proofs.Ytiopnmgcajohfaa.BoardK Go.Proofs.Ytiopnmgcajohfaa.Q
def rooksN (l : List Int) : Nat := l.countP (fun x => x != -1)
theorem rooks_l0 {l : List Int} (hl : l.length ≤ 1048576) : ∀ (d i n : Nat), i + d = l.length → n ≤ i → Ev (fun k => impl_rooks.l0 k n l (l.length : Int) i) ((n + rooksN (l.drop i) : Nat) : Int)
  | 0, i, n, hi, hn => by
    refine Ev.step (f := fun _ => some ((n + rooksN (l.drop i) : Nat) : Int)) (fun k => ?_) (Ev.now _)
    rw [impl_rooks.l0, if_neg (by omega), List.drop_eq_nil_of_le (by omega)]; rfl
  | d + 1, i, n, hi, hn => by
    have h1 : wrap64 ((i : Int) + 1) = ((i + 1 : Nat) : Int) := by rw [w64 (by omega) (by omega)]; rfl
    have h2 : wrap64 ((n : Int) + 1) = ((n + 1 : Nat) : Int) := by rw [w64 (by omega) (by omega)]; rfl
    have hi2 : i < l.length := by omega
    rw [List.drop_eq_getElem_cons hi2, rooksN, List.countP_cons]
    by_cases hx : l[i] = -1
    · have ih := rooks_l0 hl d (i + 1) n (by omega) (by omega)
      rw [rooksN] at ih
      rw [if_neg (by simp [hx]), Nat.add_zero]
      refine Ev.step (fun k => ?_) ih
      rw [impl_rooks.l0, if_pos (by omega), if_pos (by omega), if_pos (by omega), rd_lt _ _ hi2, if_pos hx, h1]
    · have ih := rooks_l0 hl d (i + 1) (n + 1) (by omega) (by omega)
      rw [rooksN] at ih
      rw [if_pos (by simpa using hx)]
      rw [show n + (List.countP (fun x => x != -1) (List.drop (i + 1) l) + 1) = n + 1 + List.countP (fun x => x != -1) (List.drop (i + 1) l) by omega]
      refine Ev.step (fun k => ?_) ih
      rw [impl_rooks.l0, if_pos (by omega), if_pos (by omega), if_pos (by omega), rd_lt _ _ hi2, if_neg hx, h1, h2]
theorem rooks_f {l : List Int} (hl : l.length ≤ 1048576) : ∃ k, impl_rooks.f k l = some (rooksN l : Int) := by
  have h := rooks_l0 hl l.length 0 0 (by omega) (by omega)
  rw [List.drop_zero, Nat.zero_add] at h
  exact h.rounds
end Go.Proofs.Ytiopnmgcajohfaa.Walk
end
section
namespace Go.Proofs.Ytiopnmgcajohfaa.Q
open Go.RowKit Go.Proofs.YtiopnmgcajohfaaW.PrintWords Go.Proofs.YtiopnmgcajohfaaW.PrintLast Go.Proofs.YtiopnmgcajohfaaW.PrintMore
attribute [local go_sem] max2_int min2_int max_two min_two max_three min_three max_four min_four   -- for this text's walks alone
set_option linter.unusedVariables false
set_option linter.unusedSimpArgs false
def impl_newBoard.f (a0:Int) (a1:Int):Option (Int × Int × List Int):=if 0≤a0 then (if (a0:Int).toNat≤35184372088832 then (some (a0,a1,(List.replicate (a0:Int).toNat 0))) else (none)) else (none)
set_option maxHeartbeats 8000000 in
set_option maxRecDepth 100000 in
theorem impl_newBoard.calls (a0:Int) (a1:Int) (r1:Int) (r2:Int) (r3:List Int) (w:World) (h:impl_newBoard.f a0 a1=some (r1,r2,r3)) :
  Calls Try.prog 145 #[.int .i64 a0,.int .i64 a1] w fun e w'=>∃ v2_:Value,e=.returned (.agg #[.int .i64 r1,.int .i64 r2,v2_])∧Kd.R (Kd.int .i64) 3 w' w.heap.size (fun _=>True) v2_ r3∧Below w.heap.size w w':=by
 have hu43:=Try.underlying43;have HB:=za (Below.refl w.heap.size w);have H:(if 0≤a0 then (if (a0:Int).toNat≤35184372088832 then (some (a0,a1,(List.replicate (a0:Int).toNat 0))) else (none)) else (none))=some (r1,r2,r3):=h;clear h;by_cases c3:0≤a0
 ·
  rw [if_pos c3] at H;have c3b0:=eq_true c3;have c3b1:decide (0≤a0)=true:=decide_eq_true c3;clear c3;by_cases c4:(a0:Int).toNat≤35184372088832
  · rw [if_pos c4] at H;have c4b0:=eq_true c4;have c4b1:decide ((a0:Int).toNat≤35184372088832)=true:=decide_eq_true c4;clear c4;obtain ⟨y102,hy102⟩:∃ y_:List Int,y_=(List.replicate (a0:Int).toNat 0):=⟨_,rfl⟩;(replace H:(some (a0,a1,y102))=some (r1,r2,r3):=by first|(rw [hy102];with_reducible exact H)|(have H2_:=(Option.bind_some _ _).symm.trans H;rw [hy102];with_reducible exact H2_)|(have H2_:=(Option.bind_some _ _).symm.trans H;with_reducible exact H2_)|with_reducible exact H|(rw [hy102];exact H)|exact H);have Ny102:=za hy102;clear hy102;simp only [Option.some.injEq,Prod.mk.injEq] at H;obtain ⟨rfl,rfl,rfl⟩:=H;(go_enter Try.func145,Try.ntmps145);(go_wp2_with (first|((with_reducible refine zA (N:=4) rfl ?_);refine zF ?hg (N:=4) ?hd (cs:=#[.int .i64 0,.int .i64 0,.slice none 0 0]) (t:=43) ?hr ?_;(case hd=>rfl);(case hg=>rfl);(case hr=>first|(go_simp;done)|(go_simp;rfl));intro gb101 hg w5 hbox hb;have BK101:=za (hbox);have GW101:=za ((by rw [hg];exact (zo (by repeat (first|(with_reducible first|exact HB.out|apply zc|apply zd|apply zb)|exact HB.out))):w.heap.size≤gb101));have GE101:=za ((by rw [hg];exact (zo (by repeat (first|(with_reducible first|exact HB.out|apply zc|apply zd|apply zb)|exact HB.out))):w.heap.size≤gb101));replace HB:=za (zp (by repeat (first|(with_reducible first|exact HB.out|apply zc|apply zd|apply zb)|exact HB.out)) hb);clear hb hbox hg)|((with_reducible refine zA (N:=8) rfl ?_);refine Kd.R_make (Kd.int .i64) _ 3 rfl (N:=8) rfl 28 _ _ rfl a0 rfl rfl Try.underlying28 (.int .i64 0) 8 info3 rfl (by decide) (by omega) 0 (ok:=fun _=>True) (okp:=fun _=>True) rfl (fun _ hk=>hk) trivial (of_decide_eq_true ‹_›) (Nat.le_trans (Nat.mul_le_mul_right _ (of_decide_eq_true ‹_›:a0.toNat≤35184372088832)) (by omega)) (Below.refl _ _) (Nat.le_refl _) ?_;intro v103 w6 ho7 hb hg_ hnew_;clear hg_ hnew_;(first|rw [← Ny102.out] at ho7|(simp only [Int.reduceToNat] at ho7;rw [← Ny102.out] at ho7));have HO104:=za (zL ho7 (zo (by repeat (first|(with_reducible first|exact HB.out|apply zc|apply zd|apply zb|refine ze ?_ GE101.out)|exact HB.out))));replace BK101:=za (zu (g:=gb101) (o:=.cells #[.int .i64 0,.int .i64 0,.slice none 0 0] 43 (0,0)) (by apply_rules only [BK101.out,zh,zf,zi]) hb);replace HB:=za (zp (by repeat (first|(with_reducible first|exact HB.out|apply zc|apply zd|apply zb|refine ze ?_ GE101.out)|exact HB.out)) hb);clear hb ho7;obtain ⟨Ao8,co8,eo8⟩:=Kd.R_slice HO104.out;subst eo8;have hcz9_0:w6.cell? ⟨gb101,0,none⟩=some (.int .i64 0):=(zg BK101.out 0).trans rfl;have hcz9_1:w6.cell? ⟨gb101,1,none⟩=some (.int .i64 0):=(zg BK101.out 1).trans rfl;have hcz9_2:w6.cell? ⟨gb101,2,none⟩=some (.slice none 0 0):=(zg BK101.out 2).trans rfl;have hfz9_0:=zm BK101.out 0;have hfz9_1:=zm BK101.out 1;have hfz9_2:=zm BK101.out 2)));refine bodyPost_ret (results_cell_row rfl _ _ gb101 43 #[.int .i64 a0,.int .i64 a1,.slice Ao8 y102.length co8] (0,0) _ rfl (by (with_reducible repeat (first|refine zh ?_ _|refine zf ?_|refine zi ?_ _));refine zz (cs:=#[.int .i64 a0,.int .i64 a1,.slice none 0 0]) ?_ 2 _ rfl;(with_reducible repeat (first|refine zh ?_ _|refine zf ?_|refine zi ?_ _));refine zz (cs:=#[.int .i64 a0,.int .i64 0,.slice none 0 0]) ?_ 1 _ rfl;(with_reducible repeat (first|refine zh ?_ _|refine zf ?_|refine zi ?_ _));refine zz (cs:=#[.int .i64 0,.int .i64 0,.slice none 0 0]) ?_ 0 _ rfl;(with_reducible repeat (first|refine zh ?_ _|refine zf ?_|refine zi ?_ _));exact BK101.out) Try.underlying43 rfl (by kernel_rfl)) rfl ?_;exact ⟨_,by first|rfl|simp [*,errW_none,errW_some] <;> rfl,by (with_reducible repeat (first|apply zk|apply zl|apply zj));exact zs (zn (p:=⟨gb101,2,none⟩) (zn (p:=⟨gb101,1,none⟩) (zn (p:=⟨gb101,0,none⟩) (zM HO104.out BK101.out (by decide)) (fun _ hk=>hk.2) (.int .i64 a0)) (fun _ hk=>hk.2) (.int .i64 a1)) (fun _ hk=>hk.2) (.slice Ao8 y102.length co8)) (fun _ hk=>trivial),by repeat (first|(with_reducible first|exact HB.out|apply zc|apply zd|apply zb|refine ze ?_ GE101.out)|exact HB.out)⟩
  · rw [if_neg c4] at H;exact absurd H (by simp)
 · rw [if_neg c3] at H;exact absurd H (by simp)
end Go.Proofs.Ytiopnmgcajohfaa.Q
end
