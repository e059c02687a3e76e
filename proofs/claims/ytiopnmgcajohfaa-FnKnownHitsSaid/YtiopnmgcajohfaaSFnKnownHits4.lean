/- Texts of this claim put together (4): words, what the functions compute, and plain facts. No conditions. -/
import Derived.Test.YtiopnmgcajohfaaProg
import Derived.Below
import Derived.Deep.Draws
import Derived.Deep.AppendLies
import Derived.Maps.AppendAt
import Derived.OwnWalk
import Derived.Laws.BytesArg
import Derived.Laws.MakeOwn
import Derived.Laws.OwnMore
import Derived.Deep.OwnRows
import Derived.Tactics
import Derived.Lib.ConvBytes
import Derived.Laws.Slices
import Derived.WalkKit
import Derived.KernelRfl
import Derived.RowKit3
import Derived.Deep.LoopGhost
import Derived.Deep.QuietTactic
import Derived.BigQuiet
import Derived.WideLaws
import Derived.Deep.DeepCutAuto
import Derived.Deep.CutBlock
import Derived.Deep.RegionHeld3
import Derived.Laws.Rows
import Derived.Lib.AppendStr
import Derived.ArgAppend
import Derived.Laws.IdiomCopy
import Derived.OrdersHeld
import Derived.Laws.BitsLemmas
import Derived.RowKit
import Derived.Test.YtiopnmgcajohfaaSFnKnownHits3
import Derived.Outline
import Derived.Lib.Hide
import Derived.Test.YtiopnmgcajohfaaSFnKnownHits0
section
namespace Go.Proofs.Ytiopnmgcajohfaa.Q
open Go.RowKit Go.Proofs.YtiopnmgcajohfaaW.PrintWords Go.Proofs.YtiopnmgcajohfaaW.PrintLast Go.Proofs.YtiopnmgcajohfaaW.PrintMore
attribute [local go_sem] max2_int min2_int max_two min_two max_three min_three max_four min_four   -- for this text's walks alone
set_option linter.unusedVariables false
set_option linter.unusedSimpArgs false
def errW:Option Int→Value
|none=>.nilIface
|some c=>.iface 0 (.int .i64 c)
theorem errW_none:errW none=.nilIface:=rfl
theorem errW_some (c:Int):errW (some c)=.iface 0 (.int .i64 c):=rfl
theorem info3:(Try.prog.info? 3).map (fun i=>(i.zero,i.size,i.bytes))=some (some (.int .i64 0),1,8):=by kernel_rfl
end Go.Proofs.Ytiopnmgcajohfaa.Q
end
section
namespace Go.Proofs.Ytiopnmgcajohfaa.Q
open Go.RowKit Go.Proofs.YtiopnmgcajohfaaW.PrintWords Go.Proofs.YtiopnmgcajohfaaW.PrintLast Go.Proofs.YtiopnmgcajohfaaW.PrintMore
attribute [local go_sem] max2_int min2_int max_two min_two max_three min_three max_four min_four   -- for this text's walks alone
set_option linter.unusedVariables false
set_option linter.unusedSimpArgs false
def laws_big.f (l0:List Int) (l1:List Int):Option (Bool):=if (l0.length:Int) > 1048576 then (some true) else (some (decide ((l1.length:Int) > (wrap64 (1048576 - (l0.length:Int))))))
set_option maxHeartbeats 8000000 in
set_option maxRecDepth 100000 in
theorem laws_big.calls (A0:Option Addr) (c0:Nat) (l0:List Int) (A1:Option Addr) (c1:Nat) (l1:List Int) (r:Bool) (w:World) (hr0:Kd.C (Kd.int .u8) w A0 l0.length l0) (hc0:l0.length≤c0) (hr1:Kd.C (Kd.int .u8) w A1 l1.length l1) (hc1:l1.length≤c1) (h:laws_big.f l0 l1=some r) :
  Calls Try.prog 32 #[.slice A0 l0.length c0,.slice A1 l1.length c1] w fun e w'=>e=.returned (.bool r)∧Drawn0 w w':=by
 have HR0:=za hr0;have HC0:=za hc0;clear hr0 hc0;have HR1:=za hr1;have HC1:=za hc1;clear hr1 hc1;have H:(if (l0.length:Int) > 1048576 then (some true) else (some (decide ((l1.length:Int) > (wrap64 (1048576 - (l0.length:Int)))))))=some r:=h;clear h;by_cases c3:(l0.length:Int) > 1048576
 · rw [if_pos c3] at H;have c3b0:decide (1048576 < (l0.length:Int))=true:=decide_eq_true c3;have c3b1:decide (1048576 < l0.length)=true:=decide_eq_true (by omega);clear c3;obtain rfl:=Option.some.inj H;(go_enter Try.func32,Try.ntmps32);(go_wp2);(go_ret);exact ⟨by first|rfl|(simp;done)|(simp [*];done),by repeat (first|exact Drawn0.refl _|apply Drawn0.step)⟩
 · rw [if_neg c3] at H;have c3b0:decide (1048576 < (l0.length:Int))=false:=decide_eq_false c3;have c3b1:decide (1048576 < l0.length)=false:=decide_eq_false (by omega);clear c3;obtain rfl:=Option.some.inj H;(go_enter Try.func32,Try.ntmps32);(go_wp2);(go_ret);exact ⟨by first|rfl|(simp;done)|(simp [*];done),by repeat (first|exact Drawn0.refl _|apply Drawn0.step)⟩
end Go.Proofs.Ytiopnmgcajohfaa.Q
end
section
namespace Go.Proofs.Ytiopnmgcajohfaa.Q
open Go.RowKit Go.Proofs.YtiopnmgcajohfaaW.PrintWords Go.Proofs.YtiopnmgcajohfaaW.PrintLast Go.Proofs.YtiopnmgcajohfaaW.PrintMore
attribute [local go_sem] max2_int min2_int max_two min_two max_three min_three max_four min_four   -- for this text's walks alone
set_option linter.unusedVariables false
set_option linter.unusedSimpArgs false
def laws_kSame.l0:Nat→List Int→List Int→Int→Int→Option (Bool)
|0,_,_,_,_=>none
|k + 1,x0,x1,x12,x13=>if x13 < x12 then (if 0≤x13 then (if x13 < (x0.length:Int) then (if x13 < (x1.length:Int) then (if (rd x0 x13)=(rd x1 x13) then (laws_kSame.l0 k x0 x1 x12 (wrap64 (x13 + 1))) else (some false)) else (none)) else (none)) else (none)) else (some true)
def laws_kSame.f (k:Nat) (l0:List Int) (l1:List Int):Option (Bool):=if (l0.length:Int)=(l1.length:Int) then (laws_kSame.l0 k l0 l1 (l0.length:Int) 0) else (some false)
theorem laws_kSame.mono_l:∀ k,(∀ y0 y1 y2 y3,LeO (laws_kSame.l0 k y0 y1 y2 y3) (laws_kSame.l0 (k + 1) y0 y1 y2 y3))
|0=>fun _ _ _ _ r h=>by simp [laws_kSame.l0] at h
|k + 1=>by
  have ih0:=laws_kSame.mono_l k
  ·
   intro y0 y1 y2 y3
   unfold laws_kSame.l0
   repeat' first
  |(with_reducible exact ih0 _ _ _ _)
  |(with_reducible exact LeO.refl _)
  |(with_reducible exact LeO.none _)
  |(with_reducible refine LeO.ite ?_ ?_)
  |(with_reducible refine LeO.bind ?_ (fun _=>?_))
  |exact ih0 _ _ _ _
  |exact LeO.none _
  |refine LeO.ite ?_ ?_
  |refine LeO.bind ?_ (fun _=>?_)
theorem laws_kSame.mono:∀ a0 a1 k,LeO (laws_kSame.f k a0 a1) (laws_kSame.f (k + 1) a0 a1):=by
 intro a0 a1 k;have ih0:=laws_kSame.mono_l k;unfold laws_kSame.f
 repeat' first
  |(with_reducible exact ih0 _ _ _ _)
  |(with_reducible exact LeO.refl _)
  |(with_reducible exact LeO.none _)
  |(with_reducible refine LeO.ite ?_ ?_)
  |(with_reducible refine LeO.bind ?_ (fun _=>?_))
  |exact ih0 _ _ _ _
  |exact LeO.none _
  |refine LeO.ite ?_ ?_
  |refine LeO.bind ?_ (fun _=>?_)
set_option maxHeartbeats 8000000 in
set_option maxRecDepth 100000 in
theorem laws_kSame.calls (k:Nat) (A0:Option Addr) (c0:Nat) (l0:List Int) (A1:Option Addr) (c1:Nat) (l1:List Int) (r:Bool) (w:World) (hr0:Kd.C (Kd.int .i64) w A0 l0.length l0) (hc0:l0.length≤c0) (hr1:Kd.C (Kd.int .i64) w A1 l1.length l1) (hc1:l1.length≤c1) (h:laws_kSame.f k l0 l1=some r) :
  Calls Try.prog 35 #[.slice A0 l0.length c0,.slice A1 l1.length c1] w fun e w'=>e=.returned (.bool r)∧Drawn0 w w':=by
 have HR0:=za hr0;have HC0:=za hc0;clear hr0 hc0;have HR1:=za hr1;have HC1:=za hc1;clear hr1 hc1;have H:(if (l0.length:Int)=(l1.length:Int) then (laws_kSame.l0 k l0 l1 (l0.length:Int) 0) else (some false))=some r:=h;clear h;by_cases c3:(l0.length:Int)=(l1.length:Int)
 ·
  rw [if_pos c3] at H;have c3b0:((l0.length:Int) == (l1.length:Int))=true:=beq_iff_eq.mpr c3;have c3b1:((l0.length:Int) != (l1.length:Int))=false:=bne_eq_false_iff_eq.mpr c3;(have c3b2:(l0.length == l1.length)=true:=by first|simpa using c3|(simp at c3 ⊢;omega));clear c3;have H':=za H;clear H;(go_enter Try.func35,Try.ntmps35);(go_wp2);(repeat (go_quiet (fail);try go_wp2));(go_loopg [13] k (fun kq v13 w'=>∃ (x13_1:Int),v13=.int .i64 x13_1∧Aside0 (laws_kSame.l0 kq l0 l1 (l0.length:Int) x13_1=some r)∧Aside0 (kq≤k)∧Drawn0 w w'));case atStart=>exact ⟨(0),(by first|rfl|(simp;done)|(simp [*];done)),H',⟨Nat.le_refl _⟩,by repeat (first|exact Drawn0.refl _|apply Drawn0.step)⟩
  case round =>
   clear H';(try clear c1);(try clear p2);(try clear c3);(try clear c3b0);(try clear c3b1);(try clear c3b2);obtain ⟨x13_1,rfl,HA,HK1,⟨m1,rfl⟩⟩:=hrel
   cases gk with
  |zero=>exact absurd HA.out (by simp [laws_kSame.l0])
  |succ k1 =>
    have H:=HA.out;clear HA;simp only [laws_kSame.l0] at H;by_cases c4:x13_1 < (l0.length:Int)
    ·
     rw [if_pos c4] at H;have c4b0:decide (x13_1 < (l0.length:Int))=true:=decide_eq_true c4;clear c4;by_cases c5:0≤x13_1
     ·
      rw [if_pos c5] at H;have c5b0:decide (0≤x13_1)=true:=decide_eq_true c5;clear c5;by_cases c6:x13_1 < (l0.length:Int)
      ·
       rw [if_pos c6] at H;have c6b0:decide (x13_1 < (l0.length:Int))=true:=decide_eq_true c6;clear c6;by_cases c7:x13_1 < (l1.length:Int)
       ·
        rw [if_pos c7] at H;have c7b0:decide (x13_1 < (l1.length:Int))=true:=decide_eq_true c7;clear c7;by_cases c8:(rd l0 x13_1)=(rd l1 x13_1)
        · rw [if_pos c8] at H;have c8b0:((rd l0 x13_1) == (rd l1 x13_1))=true:=beq_iff_eq.mpr c8;have c8b1:((rd l0 x13_1) != (rd l1 x13_1))=false:=bne_eq_false_iff_eq.mpr c8;clear c8;have H':=za H;clear H;have p101:0≤(x13_1:Int):=of_decide_eq_true ‹_›;have q101:x13_1 < (l0.length:Int):=of_decide_eq_true ‹_›;obtain ⟨ad101,e101,hx101_0⟩:=Kd.at_int HR0.out x13_1 p101 q101;cases e101;replace p101:=eq_true p101;replace q101:=eq_true q101;have p102:0≤(x13_1:Int):=of_decide_eq_true ‹_›;have q102:x13_1 < (l1.length:Int):=of_decide_eq_true ‹_›;obtain ⟨ad102,e102,hx102_0⟩:=Kd.at_int HR1.out x13_1 p102 q102;cases e102;replace p102:=eq_true p102;replace q102:=eq_true q102;(go_wp2);(repeat (go_quiet (fail);try go_wp2));(go_roundg k1);(case measure=>have:=HK1.out;omega);case rel=>exact ⟨(wrap64 (x13_1 + 1)),(by first|rfl|(simp;done)|(simp [*];done)),H',⟨by have:=HK1.out;omega⟩,by repeat (first|exact Drawn0.refl _|apply Drawn0.step)⟩
        · rw [if_neg c8] at H;have c8b0:((rd l0 x13_1) == (rd l1 x13_1))=false:=beq_eq_false_iff_ne.mpr c8;have c8b1:((rd l0 x13_1) != (rd l1 x13_1))=true:=bne_iff_ne.mpr c8;obtain rfl:=Option.some.inj H;have p101:0≤(x13_1:Int):=of_decide_eq_true ‹_›;have q101:x13_1 < (l0.length:Int):=of_decide_eq_true ‹_›;obtain ⟨ad101,e101,hx101_0⟩:=Kd.at_int HR0.out x13_1 p101 q101;cases e101;replace p101:=eq_true p101;replace q101:=eq_true q101;have p102:0≤(x13_1:Int):=of_decide_eq_true ‹_›;have q102:x13_1 < (l1.length:Int):=of_decide_eq_true ‹_›;obtain ⟨ad102,e102,hx102_0⟩:=Kd.at_int HR1.out x13_1 p102 q102;cases e102;replace p102:=eq_true p102;replace q102:=eq_true q102;(go_wp2);(repeat (go_quiet (fail);try go_wp2));(go_ret);exact ⟨by first|rfl|(simp;done)|(simp [*];done),by repeat (first|exact Drawn0.refl _|apply Drawn0.step)⟩
       · rw [if_neg c7] at H;exact absurd H (by simp)
      · rw [if_neg c6] at H;exact absurd H (by simp)
     · rw [if_neg c5] at H;exact absurd H (by simp)
    · rw [if_neg c4] at H;have c4b0:decide (x13_1 < (l0.length:Int))=false:=decide_eq_false c4;clear c4;obtain rfl:=Option.some.inj H;(go_wp2);(repeat (go_quiet (fail);try go_wp2));(go_ret);exact ⟨by first|rfl|(simp;done)|(simp [*];done),by repeat (first|exact Drawn0.refl _|apply Drawn0.step)⟩
 · rw [if_neg c3] at H;have c3b0:((l0.length:Int) == (l1.length:Int))=false:=beq_eq_false_iff_ne.mpr c3;have c3b1:((l0.length:Int) != (l1.length:Int))=true:=bne_iff_ne.mpr c3;(have c3b2:(l0.length == l1.length)=false:=by first|simpa using c3|(simp at c3 ⊢;omega));obtain rfl:=Option.some.inj H;(go_enter Try.func35,Try.ntmps35);(go_wp2);(repeat (go_quiet (fail);try go_wp2));(go_ret);exact ⟨by first|rfl|(simp;done)|(simp [*];done),by repeat (first|exact Drawn0.refl _|apply Drawn0.step)⟩
end Go.Proofs.Ytiopnmgcajohfaa.Q
end
section
namespace Go.Proofs.Ytiopnmgcajohfaa.Q
open Go.RowKit Go.Proofs.YtiopnmgcajohfaaW.PrintWords Go.Proofs.YtiopnmgcajohfaaW.PrintLast Go.Proofs.YtiopnmgcajohfaaW.PrintMore
attribute [local go_sem] max2_int min2_int max_two min_two max_three min_three max_four min_four   -- for this text's walks alone
set_option linter.unusedVariables false
set_option linter.unusedSimpArgs false
def impl_within.f (a0:Int) (a1:Int) (a2:Int):Option (Bool):=if a1≤a0 then (some (decide (a0≤a2))) else (some false)
set_option maxHeartbeats 8000000 in
set_option maxRecDepth 100000 in
theorem impl_within.calls (a0:Int) (a1:Int) (a2:Int) (r:Bool) (w:World) (h:impl_within.f a0 a1 a2=some r) :
  Calls Try.prog 79 #[.int .i64 a0,.int .i64 a1,.int .i64 a2] w fun e w'=>e=.returned (.bool r)∧Drawn0 w w':=by
 have H:(if a1≤a0 then (some (decide (a0≤a2))) else (some false))=some r:=h;clear h;by_cases c4:a1≤a0
 · rw [if_pos c4] at H;have c4b0:decide (a1≤a0)=true:=decide_eq_true c4;clear c4;obtain rfl:=Option.some.inj H;(go_enter Try.func79,Try.ntmps79);(go_wp2);(go_ret);exact ⟨by first|rfl|(simp;done)|(simp [*];done),by repeat (first|exact Drawn0.refl _|apply Drawn0.step)⟩
 · rw [if_neg c4] at H;have c4b0:decide (a1≤a0)=false:=decide_eq_false c4;clear c4;obtain rfl:=Option.some.inj H;(go_enter Try.func79,Try.ntmps79);(go_wp2);(go_ret);exact ⟨by first|rfl|(simp;done)|(simp [*];done),by repeat (first|exact Drawn0.refl _|apply Drawn0.step)⟩
end Go.Proofs.Ytiopnmgcajohfaa.Q
end
section
namespace Go.Proofs.Ytiopnmgcajohfaa.Q
open Go.RowKit Go.Proofs.YtiopnmgcajohfaaW.PrintWords Go.Proofs.YtiopnmgcajohfaaW.PrintLast Go.Proofs.YtiopnmgcajohfaaW.PrintMore
attribute [local go_sem] max2_int min2_int max_two min_two max_three min_three max_four min_four   -- for this text's walks alone
set_option linter.unusedVariables false
set_option linter.unusedSimpArgs false
def impl_isSide.f (a0:Int):Option (Bool):=(impl_within.f a0 1 6).bind fun t101=>(some t101)
set_option maxHeartbeats 8000000 in
set_option maxRecDepth 100000 in
theorem impl_isSide.calls (a0:Int) (r:Bool) (w:World) (h:impl_isSide.f a0=some r) :
  Calls Try.prog 104 #[.int .i64 a0] w fun e w'=>e=.returned (.bool r)∧Drawn0 w w':=by
 have H:((impl_within.f a0 1 6).bind fun t101=>(some t101))=some r:=h;clear h;obtain ⟨t101,A2,H⟩:=bindAside H;(try dsimp only at H);obtain rfl:=Option.some.inj H;(go_enter Try.func104,Try.ntmps104);(go_wp2_with (first|((with_reducible refine zt (f:=79) rfl ?_);refine goesL_ (some 4) rfl rfl Try.func79 (by kernel_rfl) rfl #[.int .i64 a0,.int .i64 1,.int .i64 6] rfl (by first|rfl|simp only [z3_,z4_,z5_];try rfl) ?_;(with_reducible refine (impl_within.calls a0 1 6 t101 _ A2.out).mono ?_);rintro e w' ⟨rfl,⟨nd,rfl⟩⟩;refine ⟨_,rfl,?_⟩)));(go_ret);exact ⟨by first|rfl|(simp;done)|(simp [*];done),by repeat (first|exact Drawn0.refl _|apply Drawn0.step)⟩
end Go.Proofs.Ytiopnmgcajohfaa.Q
end
section
namespace Go.Proofs.YtiopnmgcajohfaaL
set_option linter.unusedVariables false
open Go.RowKit Go.Proofs.YtiopnmgcajohfaaW.PrintWords Go.Proofs.YtiopnmgcajohfaaW.PrintLast Go.Proofs.YtiopnmgcajohfaaW.PrintMore
theorem w64 {n : Int} (h1 : -9223372036854775808 ≤ n) (h2 : n ≤ 9223372036854775807) : wrap64 n = n := by
  unfold wrap64; omega
theorem wrap_i64' (n : Int) : IntKind.i64.wrap n = wrap64 n := by rw [IntKind.wrap_i64]; unfold wrap64; rfl
theorem wraps_i64 (n : Int) (h₀ : 0 ≤ n) (h₁ : n < 2 ^ 63) : IntKind.i64.wrap n = n := by rw [IntKind.wrap_i64]; omega
theorem and_nat (a b : Nat) (ha : a < 2 ^ 63) (hb : b < 2 ^ 63) : Go.bits .and .i64 (a : Int) (b : Int) = ((a &&& b : Nat) : Int) :=
  (bits_nat .i64 63 (by decide) wraps_i64 a b ha hb).1
theorem or_nat (a b : Nat) (ha : a < 2 ^ 63) (hb : b < 2 ^ 63) : Go.bits .or .i64 (a : Int) (b : Int) = ((a ||| b : Nat) : Int) :=
  (bits_nat .i64 63 (by decide) wraps_i64 a b ha hb).2
theorem shl_one (n : Nat) (h : n ≤ 62) : shl .i64 1 (n : Int) = ((2 ^ n : Nat) : Int) := by
  unfold shl
  have h1 : min (n : Int).toNat (IntKind.i64.bits) = n := by
    have : IntKind.i64.bits = 64 := rfl
    rw [this, Int.toNat_natCast]; omega
  rw [h1, Int.one_mul]
  have h2 : (2 : Nat) ^ n ≤ 2 ^ 62 := Nat.pow_le_pow_right (by decide) h
  have h3 : ((2 : Int) ^ n) = ((2 ^ n : Nat) : Int) := by simp
  rw [h3]
  refine wraps_i64 _ (Int.natCast_nonneg _) ?_
  have : (2 : Nat) ^ n < 2 ^ 63 := Nat.lt_of_le_of_lt h2 (by decide)
  exact_mod_cast this
theorem shr_nat (x n : Nat) (h : n ≤ 64) : shr .i64 (x : Int) (n : Int) = ((x >>> n : Nat) : Int) := by
  unfold shr
  have h1 : min (n : Int).toNat (IntKind.i64.bits) = n := by
    have : IntKind.i64.bits = 64 := rfl
    rw [this, Int.toNat_natCast]; omega
  rw [h1, Nat.shiftRight_eq_div_pow]
  have h3 : ((2 : Int) ^ n) = ((2 ^ n : Nat) : Int) := by simp
  rw [h3]; rfl
theorem bit_and (x n : Nat) (hx : x < 2 ^ 63) (h : n ≤ 64) : Go.bits .and .i64 (shr .i64 (x : Int) (n : Int)) 1 = if x.testBit n then 1 else 0 := by
  rw [shr_nat x n h]
  have hs : x >>> n < 2 ^ 63 := Nat.lt_of_le_of_lt (by rw [Nat.shiftRight_eq_div_pow]; exact Nat.div_le_self _ _) hx
  have := and_nat (x >>> n) 1 hs (by decide)
  rw [show ((1 : Nat) : Int) = 1 from rfl] at this
  rw [this, Nat.and_one_is_mod]
  rw [Nat.testBit, Nat.one_and_eq_mod_two]
  rcases Nat.mod_two_eq_zero_or_one (x >>> n) with h | h <;> simp [h]
theorem gD_lt {α : Type} (xs : List α) (d : α) {i : Nat} (h : i < xs.length) : xs.getD i d = xs[i] := by simp [List.getD, h]
theorem gD_ge {α : Type} (xs : List α) (d : α) {i : Nat} (h : xs.length ≤ i) : xs.getD i d = d := by simp [List.getD, h]
theorem rd_nat (xs : List Int) (i : Nat) : rd xs (i : Int) = xs.getD i 0 := by unfold rd; rw [Int.toNat_natCast]
theorem rd_lt (xs : List Int) (i : Nat) (h : i < xs.length) : rd xs (i : Int) = xs[i] := by
  rw [rd_nat]; simp [List.getD, h]
theorem tmod_nat (a b : Nat) : Int.tmod (a : Int) (b : Int) = ((a % b : Nat) : Int) := by
  rw [Int.tmod_eq_emod_of_nonneg (Int.natCast_nonneg _)]; rfl
end Go.Proofs.YtiopnmgcajohfaaL
end
section
namespace Go.Proofs.Ytiopnmgcajohfaa.Q
open Go.RowKit Go.Proofs.YtiopnmgcajohfaaW.PrintWords Go.Proofs.YtiopnmgcajohfaaW.PrintLast Go.Proofs.YtiopnmgcajohfaaW.PrintMore
open Go.Proofs.YtiopnmgcajohfaaL
set_option linter.unusedVariables false
def rowIn (c : Int) (m : Int) : Bool := decide (0 ≤ m ∧ m ≤ 2 ^ c.toNat - 1)
def isBoardB (r c : Int) (l : List Int) : Bool := decide (1 ≤ r ∧ r ≤ 6 ∧ 1 ≤ c ∧ c ≤ 6 ∧ (l.length : Int) = r) && l.all (rowIn c)
theorem within_f (a b c : Int) : impl_within.f a b c = some (decide (b ≤ a ∧ a ≤ c)) := by
  unfold impl_within.f
  by_cases h : b ≤ a
  · rw [if_pos h]; simp [h]
  · rw [if_neg h]; simp [h]
theorem isSide_f (a : Int) : impl_isSide.f a = some (decide (1 ≤ a ∧ a ≤ 6)) := by
  unfold impl_isSide.f; rw [within_f]; rfl
set_option maxHeartbeats 1000000 in
theorem isBoard1 (m c : Int) (B : Nat) (w : World) (hc : w.cell? ⟨B, 1, none⟩ = some (.int .i64 c)) (h1 : 1 ≤ c) (h6 : c ≤ 6) :
    Calls Try.prog 148 #[.int .i64 m, .pointer (some ⟨B, 0, none⟩)] w fun e w' => e = .returned (.bool (!rowIn c m)) ∧ Drawn0 w w' := by
  have key : ∀ x : Int, x = 2 ^ c.toNat - 1 → Aside0 (impl_within.f m 0 x = some (rowIn c m)) := fun x hx => ⟨by rw [hx]; exact within_f m 0 _⟩
  obtain rfl | rfl | rfl | rfl | rfl | rfl : c = 1 ∨ c = 2 ∨ c = 3 ∨ c = 4 ∨ c = 5 ∨ c = 6 := by omega
  all_goals
    have K := key _ rfl
    clear key
    generalize rowIn _ m = rr at K ⊢
    simp only [Int.reduceToNat, Int.reducePow, Int.reduceSub] at K
    go_enter Try.func148, Try.ntmps148
    go_wp2_with (first | (go_at_call 79; (refine (impl_within.calls m 0 _ rr _ K.out).mono ?_); rintro e w' ⟨rfl, ⟨nd, rfl⟩⟩))
    go_ret
    exact ⟨rfl, by repeat (first | exact Drawn0.refl _ | apply Drawn0.step)⟩
def idxB (c : Int) : List Int → Int → Int
  | [], _ => -1
  | x :: t, i => if rowIn c x = true then idxB c t (i + 1) else i
theorem idxB_neg (c : Int) : ∀ (l : List Int) (i : Int), 0 ≤ i → decide (0 ≤ idxB c l i) = !l.all (rowIn c)
  | [], _, _ => rfl
  | x :: t, i, h => by
    rw [idxB, List.all_cons]
    by_cases hx : rowIn c x = true
    · rw [if_pos hx, idxB_neg c t (i + 1) (by omega), hx, Bool.true_and]
    · rw [if_neg hx]; simp [hx, h]
set_option maxHeartbeats 1000000 in
theorem isBoardIndex (A0 : Option Addr) (c0 : Nat) (l0 : List Int) (c : Int) (B : Nat) (w : World) (hr0 : Kd.C (Kd.int .i64) w A0 l0.length l0) (hc0 : l0.length ≤ c0) (hlen : l0.length ≤ 6)
    (hc : w.cell? ⟨B, 1, none⟩ = some (.int .i64 c)) (h1 : 1 ≤ c) (h6 : c ≤ 6) :
    Calls Try.prog 154 #[.slice A0 l0.length c0, .func (.func 148) #[] #[.pointer (some ⟨B, 0, none⟩)]] w fun e w' => e = .returned (.int .i64 (idxB c l0 0)) ∧ Drawn0 w w' := by
  have HR0 := Aside0.mk hr0
  have HC0 := Aside0.mk hc0
  have HL := Aside0.mk hlen
  have HC := Aside0.mk hc
  have H1 := Aside0.mk h1
  have H6 := Aside0.mk h6
  clear hr0 hc0 hlen hc h1 h6
  obtain ⟨r, hr⟩ : ∃ r, r = idxB c l0 0 := ⟨_, rfl⟩
  rw [← hr]
  have HR := Aside0.mk hr
  clear hr
  go_enter Try.func154, Try.ntmps154
  go_wp2
  go_loopg [8] l0.length (fun kq v8 w' => ∃ (x8_1 : Int), v8 = .int .i64 x8_1 ∧ Aside0 (∃ i : Nat, x8_1 = i ∧ i + kq = l0.length ∧ idxB c (l0.drop i) i = r) ∧ Drawn0 w w')
  case atStart => exact ⟨(0), rfl, ⟨0, rfl, by omega, by rw [HR.out]; rfl⟩, by repeat (first | exact Drawn0.refl _ | apply Drawn0.step)⟩
  case round =>
    obtain ⟨x8_1, rfl, HI, ⟨m1, rfl⟩⟩ := hrel
    by_cases c3 : x8_1 < (l0.length : Int)
    · have c4b0 : decide (0 ≤ x8_1) = true := decide_eq_true (by obtain ⟨i, h, _⟩ := HI.out; omega)
      have c3b0 : decide (x8_1 < (l0.length : Int)) = true := decide_eq_true c3
      cases gk with
      | zero => exact absurd HI.out (by rintro ⟨i, h, h', _⟩; omega)
      | succ k1 =>
        clear c3
        have p101 : 0 ≤ (x8_1 : Int) := of_decide_eq_true (by first | (with_reducible assumption) | assumption)
        have q101 : x8_1 < (l0.length : Int) := of_decide_eq_true (by first | (with_reducible assumption) | assumption)
        have HX : Aside0 (∃ i : Nat, x8_1 = i ∧ i + k1 + 1 = l0.length ∧ (if rowIn c (rd l0 x8_1) = true then idxB c (l0.drop (i + 1)) (i + 1) else i) = r) := ⟨by
          obtain ⟨i, h, h', h3⟩ := HI.out
          refine ⟨i, h, by omega, ?_⟩
          rw [List.drop_eq_getElem_cons (by omega), idxB] at h3
          rw [h, rd_lt _ _ (by omega)]
          exact h3⟩
        clear HI
        obtain ⟨ad101, e101, hx101_0⟩ := Kd.at_int HR0.out x8_1 p101 q101
        cases e101
        replace p101 := eq_true p101
        replace q101 := eq_true q101
        by_cases cr : rowIn c (rd l0 x8_1) = true
        · have HB : Aside0 ((!rowIn c (rd l0 x8_1)) = false) := ⟨by rw [cr]; rfl⟩
          have HX2 : Aside0 (∃ i : Nat, wrap64 (x8_1 + 1) = i ∧ i + k1 = l0.length ∧ idxB c (l0.drop i) i = r) := ⟨by
            obtain ⟨i, h, h', h3⟩ := HX.out
            rw [if_pos cr] at h3
            have := HL.out
            refine ⟨i + 1, by rw [w64 (by omega) (by omega)]; omega, by omega, h3⟩⟩
          clear HX cr
          have CC : ∀ W : World, (∃ q, W = w.drewN q) → Calls Try.prog 148 #[.int .i64 (rd l0 x8_1), .pointer (some ⟨B, 0, none⟩)] W fun e w' => e = .returned (.bool false) ∧ Drawn0 W w' := by
            rintro W ⟨q, rfl⟩
            have := isBoard1 (rd l0 x8_1) c B (w.drewN q) HC.out H1.out H6.out
            rw [HB.out] at this
            exact this
          have CX := Lib.hid CC
          clear CC
          go_wp2_with (first | (go_at_call 148; (refine (CX.out _ ⟨_, rfl⟩).mono ?_); rintro e w' ⟨rfl, ⟨nd, rfl⟩⟩))
          go_roundg k1
          case measure => omega
          case rel => exact ⟨(wrap64 (x8_1 + 1)), (by first | rfl | (simp; done) | (simp [*]; done)), HX2, by repeat (first | exact Drawn0.refl _ | apply Drawn0.step)⟩
        · have HB : Aside0 ((!rowIn c (rd l0 x8_1)) = true) := ⟨by simp [cr]⟩
          have HX2 : Aside0 (x8_1 = r) := ⟨by
            obtain ⟨i, h, h', h3⟩ := HX.out
            rw [if_neg cr] at h3
            omega⟩
          clear HX cr
          have CC : ∀ W : World, (∃ q, W = w.drewN q) → Calls Try.prog 148 #[.int .i64 (rd l0 x8_1), .pointer (some ⟨B, 0, none⟩)] W fun e w' => e = .returned (.bool true) ∧ Drawn0 W w' := by
            rintro W ⟨q, rfl⟩
            have := isBoard1 (rd l0 x8_1) c B (w.drewN q) HC.out H1.out H6.out
            rw [HB.out] at this
            exact this
          have CX := Lib.hid CC
          clear CC
          go_wp2_with (first | (go_at_call 148; (refine (CX.out _ ⟨_, rfl⟩).mono ?_); rintro e w' ⟨rfl, ⟨nd, rfl⟩⟩))
          go_ret
          exact ⟨by rw [HX2.out]; rfl, by repeat (first | exact Drawn0.refl _ | apply Drawn0.step)⟩
    · have c3b0 : decide (x8_1 < (l0.length : Int)) = false := decide_eq_false c3
      have HX2 : Aside0 (-1 = r) := ⟨by
        obtain ⟨i, h, h', h3⟩ := HI.out
        rw [List.drop_eq_nil_of_le (by omega), idxB] at h3
        exact h3⟩
      clear c3 HI
      go_wp2
      go_ret
      exact ⟨by rw [HX2.out]; rfl, by repeat (first | exact Drawn0.refl _ | apply Drawn0.step)⟩
theorem isBoardContains (A0 : Option Addr) (c0 : Nat) (l0 : List Int) (c : Int) (B : Nat) (w : World) (hr0 : Kd.C (Kd.int .i64) w A0 l0.length l0) (hc0 : l0.length ≤ c0) (hlen : l0.length ≤ 6)
    (hc : w.cell? ⟨B, 1, none⟩ = some (.int .i64 c)) (h1 : 1 ≤ c) (h6 : c ≤ 6) :
    Calls Try.prog 147 #[.slice A0 l0.length c0, .func (.func 148) #[] #[.pointer (some ⟨B, 0, none⟩)]] w fun e w' => e = .returned (.bool (!l0.all (rowIn c))) ∧ Drawn0 w w' := by
  have C := isBoardIndex A0 c0 l0 c B w hr0 hc0 hlen hc h1 h6
  have N := Aside0.mk (idxB_neg c l0 0 (Int.le_refl _))
  have CX := Lib.hid C
  clear C hr0 hc0 hlen hc h1 h6
  rw [← N.out]
  clear N
  go_enter Try.func147, Try.ntmps147
  go_wp2_with (first | (go_at_call 154; (refine CX.out.mono ?_); rintro e w' ⟨rfl, ⟨nd, rfl⟩⟩))
  go_ret
  exact ⟨by first | rfl | (simp; done), by repeat (first | exact Drawn0.refl _ | apply Drawn0.step)⟩
def impl_IsBoard.f (a0_0 : Int) (a0_1 : Int) (l0_2 : List Int) : Option (Bool) := some (isBoardB a0_0 a0_1 l0_2)
set_option maxHeartbeats 1000000 in
theorem impl_IsBoard.calls (a0_0 : Int) (a0_1 : Int) (A0_2 : Option Addr) (c0_2 : Nat) (l0_2 : List Int) (r : Bool) (w : World) (hr0_2 : Kd.C (Kd.int .i64) w A0_2 l0_2.length l0_2) (hc0_2 : l0_2.length ≤ c0_2) (h : impl_IsBoard.f a0_0 a0_1 l0_2 = some r) :
    Calls Try.prog 117 #[.agg #[.int .i64 a0_0, .int .i64 a0_1, .slice A0_2 l0_2.length c0_2]] w fun e w' => e = .returned (.bool r) ∧ Below w.heap.size w w' := by
  have hB := Option.some.inj h
  clear h
  unfold isBoardB at hB
  have s1 := Aside0.mk (isSide_f a0_0)
  have s2 := Aside0.mk (isSide_f a0_1)
  by_cases h1 : 1 ≤ a0_0 ∧ a0_0 ≤ 6
  · rw [decide_eq_true h1] at s1
    by_cases h2 : 1 ≤ a0_1 ∧ a0_1 ≤ 6
    · rw [decide_eq_true h2] at s2
      by_cases h3 : (l0_2.length : Int) = a0_0
      · have e : r = l0_2.all (rowIn a0_1) := by rw [← hB, decide_eq_true ⟨h1.1, h1.2, h2.1, h2.2, h3⟩, Bool.true_and]
        have t1 : ((l0_2.length : Int) != a0_0) = false := bne_eq_false_iff_eq.mpr h3
        have C : ∀ W : World, Kd.C (Kd.int .i64) W A0_2 l0_2.length l0_2 → W.cell? ⟨w.heap.size, 1, none⟩ = some (.int .i64 a0_1) → Calls Try.prog 147 #[.slice A0_2 l0_2.length c0_2, .func (.func 148) #[] #[.pointer (some ⟨w.heap.size, 0, none⟩)]] W fun e w' => e = .returned (.bool (!r)) ∧ Drawn0 W w' := by
          intro W hW hcell
          rw [e]
          exact isBoardContains A0_2 c0_2 l0_2 a0_1 w.heap.size W hW hc0_2 (by omega) hcell h2.1 h2.2
        have CX := Lib.hid C
        have HR := Aside0.mk hr0_2
        clear C hr0_2 hc0_2 h1 h2 h3 e hB
        go_enter Try.func117, Try.ntmps117
        go_wp2_with (first | (go_at_call 104; (with_reducible refine (impl_isSide.calls a0_0 true _ s1.out).mono ?_); rintro e w' ⟨rfl, ⟨nd, rfl⟩⟩) | (go_at_call 104; (with_reducible refine (impl_isSide.calls a0_1 true _ s2.out).mono ?_); rintro e w' ⟨rfl, ⟨nd, rfl⟩⟩) | (go_at_call 147; (refine (CX.out _ ?side1 ?side2).mono ?_); (case side1 => repeat (first | exact HR.out | (with_reducible refine Kd.C_alloc ?_ _) | (with_reducible refine Kd.C_drewN ?_ _) | (with_reducible refine Kd.C_drew ?_))); (case side2 => first | rfl | (simp; done)); rintro e w' ⟨rfl, ⟨nd, rfl⟩⟩))
        go_ret
        exact ⟨by first | rfl | (simp; done), by repeat (first | exact Below.refl _ _ | apply below_alloc | apply pw_below_drewN | apply below_drew1)⟩
      · have e : r = false := by rw [← hB, decide_eq_false (fun hh => h3 hh.2.2.2.2), Bool.false_and]
        have t1 : ((l0_2.length : Int) != a0_0) = true := bne_iff_ne.mpr h3
        subst e
        clear hr0_2 hc0_2 h1 h2 h3 hB
        go_enter Try.func117, Try.ntmps117
        go_wp2_with (first | (go_at_call 104; (with_reducible refine (impl_isSide.calls a0_0 true _ s1.out).mono ?_); rintro e w' ⟨rfl, ⟨nd, rfl⟩⟩) | (go_at_call 104; (with_reducible refine (impl_isSide.calls a0_1 true _ s2.out).mono ?_); rintro e w' ⟨rfl, ⟨nd, rfl⟩⟩))
        go_ret
        exact ⟨by first | rfl | (simp; done), by repeat (first | exact Below.refl _ _ | apply below_alloc | apply pw_below_drewN | apply below_drew1)⟩
    · rw [decide_eq_false h2] at s2
      have e : r = false := by rw [← hB, decide_eq_false (fun hh => h2 ⟨hh.2.2.1, hh.2.2.2.1⟩), Bool.false_and]
      subst e
      clear hr0_2 hc0_2 h1 h2 hB
      go_enter Try.func117, Try.ntmps117
      go_wp2_with (first | (go_at_call 104; (with_reducible refine (impl_isSide.calls a0_0 true _ s1.out).mono ?_); rintro e w' ⟨rfl, ⟨nd, rfl⟩⟩) | (go_at_call 104; (with_reducible refine (impl_isSide.calls a0_1 false _ s2.out).mono ?_); rintro e w' ⟨rfl, ⟨nd, rfl⟩⟩))
      go_ret
      exact ⟨by first | rfl | (simp; done), by repeat (first | exact Below.refl _ _ | apply below_alloc | apply pw_below_drewN | apply below_drew1)⟩
  · rw [decide_eq_false h1] at s1
    have e : r = false := by rw [← hB, decide_eq_false (fun hh => h1 ⟨hh.1, hh.2.1⟩), Bool.false_and]
    subst e
    clear hr0_2 hc0_2 h1 hB s2
    go_enter Try.func117, Try.ntmps117
    go_wp2_with (first | (go_at_call 104; (with_reducible refine (impl_isSide.calls a0_0 false _ s1.out).mono ?_); rintro e w' ⟨rfl, ⟨nd, rfl⟩⟩))
    go_ret
    exact ⟨by first | rfl | (simp; done), by repeat (first | exact Below.refl _ _ | apply below_alloc | apply pw_below_drewN | apply below_drew1)⟩
end Go.Proofs.Ytiopnmgcajohfaa.Q
end
section
namespace Go.Proofs.Ytiopnmgcajohfaa.Q
open Go.RowKit Go.Proofs.YtiopnmgcajohfaaW.PrintWords Go.Proofs.YtiopnmgcajohfaaW.PrintLast Go.Proofs.YtiopnmgcajohfaaW.PrintMore
attribute [local go_sem] max2_int min2_int max_two min_two max_three min_three max_four min_four   -- for this text's walks alone
set_option linter.unusedVariables false
set_option linter.unusedSimpArgs false
def impl_isSquare.f (a0_0:Int) (a0_1:Int) (l0_2:List Int):Option (Bool):=(impl_IsBoard.f a0_0 a0_1 l0_2).bind fun t102=>(if t102=true then (some (a0_0 == a0_1)) else (some false))
set_option maxHeartbeats 8000000 in
set_option maxRecDepth 100000 in
theorem impl_isSquare.calls (a0_0:Int) (a0_1:Int) (A0_2:Option Addr) (c0_2:Nat) (l0_2:List Int) (r:Bool) (w:World) (hr0_2:Kd.C (Kd.int .i64) w A0_2 l0_2.length l0_2) (hc0_2:l0_2.length≤c0_2) (h:impl_isSquare.f a0_0 a0_1 l0_2=some r) :
  Calls Try.prog 93 #[.agg #[.int .i64 a0_0,.int .i64 a0_1,.slice A0_2 l0_2.length c0_2]] w fun e w'=>e=.returned (.bool r)∧Below w.heap.size w w':=by
 have hu43:=Try.underlying43;have HR0_2:=za hr0_2;have HC0_2:=za hc0_2;clear hr0_2 hc0_2;have HB:=za (Below.refl w.heap.size w);have H:((impl_IsBoard.f a0_0 a0_1 l0_2).bind fun t102=>(if t102=true then (some (a0_0 == a0_1)) else (some false)))=some r:=h;clear h;obtain ⟨t102,A2,H⟩:=bindAside H;(try dsimp only at H);by_cases c3:t102=true
 · subst c3;(have H1:(some (a0_0 == a0_1))=some r:=by rw [if_pos rfl] at H;exact H);clear H;have H:=H1;clear H1;obtain rfl:=Option.some.inj H;(go_enter Try.func93,Try.ntmps93);(go_wp2_with (first|((with_reducible refine gate_dst (N:=1) rfl ?_);refine box_event ?hg (N:=1) ?hd (cs:=#[.int .i64 a0_0,.int .i64 a0_1,.slice A0_2 l0_2.length c0_2]) (t:=43) ?hr ?_;(case hd=>rfl);(case hg=>rfl);(case hr=>first|(go_simp;done)|(go_simp;rfl));intro gb101 hg w4 hbox hb;have BK101:=za (hbox);have GW101:=za ((by rw [hg];exact (zq (by repeat (first|(with_reducible first|exact HB.out|apply zj|apply zk|apply zi)|exact HB.out))):w.heap.size≤gb101));have GE101:=za ((by rw [hg];exact (zq (by repeat (first|(with_reducible first|exact HB.out|apply zj|apply zk|apply zi)|exact HB.out))):w.heap.size≤gb101));replace HB:=za (zu (by repeat (first|(with_reducible first|exact HB.out|apply zj|apply zk|apply zi)|exact HB.out)) hb);clear hb hbox hg;have hcz5_0:w4.cell? ⟨gb101,0,none⟩=some (.int .i64 a0_0):=(zl BK101.out 0).trans rfl;have hcz5_1:w4.cell? ⟨gb101,1,none⟩=some (.int .i64 a0_1):=(zl BK101.out 1).trans rfl;have hcz5_2:w4.cell? ⟨gb101,2,none⟩=some (.slice A0_2 l0_2.length c0_2):=(zl BK101.out 2).trans rfl;have hfz5_0:=zm BK101.out 0;have hfz5_1:=zm BK101.out 1;have hfz5_2:=zm BK101.out 2)|((with_reducible refine zt (f:=117) rfl ?_);refine goesL_ (some 4) rfl rfl Try.func117 (by kernel_rfl) rfl #[.agg #[.int .i64 a0_0,.int .i64 a0_1,.slice A0_2 l0_2.length c0_2]] rfl (by first|rfl|simp only [z3_,z4_,z5_];try rfl) ?_;(with_reducible refine (impl_IsBoard.calls a0_0 a0_1 _ _ l0_2 true _ ?side1 ?side2 A2.out).mono ?_);(case side1=>repeat (first|exact (Kd.C_below HR0_2.out HB.out)|(with_reducible refine Kd.C_alloc ?_ _)|(with_reducible refine Kd.C_drewN ?_ _)|(with_reducible refine Kd.C_drew ?_)));(case side2=>exact HC0_2.out);rintro e w6 ⟨rfl,hb⟩;refine ⟨_,rfl,?_⟩;replace BK101:=za (zo (g:=gb101) (o:=.cells #[.int .i64 a0_0,.int .i64 a0_1,.slice A0_2 l0_2.length c0_2] 43 (0,0)) (by apply_rules only [BK101.out,zd,zb,ze]) hb);replace HB:=za (zu (by repeat (first|(with_reducible first|exact HB.out|apply zj|apply zk|apply zi|refine zc ?_ GE101.out)|exact HB.out)) hb);have hcz7_0:w6.cell? ⟨gb101,0,none⟩=some (.int .i64 a0_0):=(zl BK101.out 0).trans rfl;have hcz7_1:w6.cell? ⟨gb101,1,none⟩=some (.int .i64 a0_1):=(zl BK101.out 1).trans rfl;have hcz7_2:w6.cell? ⟨gb101,2,none⟩=some (.slice A0_2 l0_2.length c0_2):=(zl BK101.out 2).trans rfl;have hfz7_0:=zm BK101.out 0;have hfz7_1:=zm BK101.out 1;have hfz7_2:=zm BK101.out 2)));(go_ret);exact ⟨by first|rfl|simp [*,errW_none,errW_some] <;> rfl,by repeat (first|(with_reducible first|exact HB.out|apply zj|apply zk|apply zi|refine zc ?_ GE101.out)|exact HB.out)⟩
 · replace c3:=Bool.eq_false_iff.mpr c3;subst c3;(have H1:(some false)=some r:=by rw [if_neg (show ¬ (false=true) by decide)] at H;exact H);clear H;have H:=H1;clear H1;obtain rfl:=Option.some.inj H;(go_enter Try.func93,Try.ntmps93);(go_wp2_with (first|((with_reducible refine gate_dst (N:=1) rfl ?_);refine box_event ?hg (N:=1) ?hd (cs:=#[.int .i64 a0_0,.int .i64 a0_1,.slice A0_2 l0_2.length c0_2]) (t:=43) ?hr ?_;(case hd=>rfl);(case hg=>rfl);(case hr=>first|(go_simp;done)|(go_simp;rfl));intro gb101 hg w8 hbox hb;have BK101:=za (hbox);have GW101:=za ((by rw [hg];exact (zq (by repeat (first|(with_reducible first|exact HB.out|apply zj|apply zk|apply zi)|exact HB.out))):w.heap.size≤gb101));have GE101:=za ((by rw [hg];exact (zq (by repeat (first|(with_reducible first|exact HB.out|apply zj|apply zk|apply zi)|exact HB.out))):w.heap.size≤gb101));replace HB:=za (zu (by repeat (first|(with_reducible first|exact HB.out|apply zj|apply zk|apply zi)|exact HB.out)) hb);clear hb hbox hg;have hcz9_0:w8.cell? ⟨gb101,0,none⟩=some (.int .i64 a0_0):=(zl BK101.out 0).trans rfl;have hcz9_1:w8.cell? ⟨gb101,1,none⟩=some (.int .i64 a0_1):=(zl BK101.out 1).trans rfl;have hcz9_2:w8.cell? ⟨gb101,2,none⟩=some (.slice A0_2 l0_2.length c0_2):=(zl BK101.out 2).trans rfl;have hfz9_0:=zm BK101.out 0;have hfz9_1:=zm BK101.out 1;have hfz9_2:=zm BK101.out 2)|((with_reducible refine zt (f:=117) rfl ?_);refine goesL_ (some 4) rfl rfl Try.func117 (by kernel_rfl) rfl #[.agg #[.int .i64 a0_0,.int .i64 a0_1,.slice A0_2 l0_2.length c0_2]] rfl (by first|rfl|simp only [z3_,z4_,z5_];try rfl) ?_;(with_reducible refine (impl_IsBoard.calls a0_0 a0_1 _ _ l0_2 false _ ?side1 ?side2 A2.out).mono ?_);(case side1=>repeat (first|exact (Kd.C_below HR0_2.out HB.out)|(with_reducible refine Kd.C_alloc ?_ _)|(with_reducible refine Kd.C_drewN ?_ _)|(with_reducible refine Kd.C_drew ?_)));(case side2=>exact HC0_2.out);rintro e w10 ⟨rfl,hb⟩;refine ⟨_,rfl,?_⟩;replace BK101:=za (zo (g:=gb101) (o:=.cells #[.int .i64 a0_0,.int .i64 a0_1,.slice A0_2 l0_2.length c0_2] 43 (0,0)) (by apply_rules only [BK101.out,zd,zb,ze]) hb);replace HB:=za (zu (by repeat (first|(with_reducible first|exact HB.out|apply zj|apply zk|apply zi|refine zc ?_ GE101.out)|exact HB.out)) hb))));(go_ret);exact ⟨by first|rfl|simp [*,errW_none,errW_some] <;> rfl,by repeat (first|(with_reducible first|exact HB.out|apply zj|apply zk|apply zi|refine zc ?_ GE101.out)|exact HB.out)⟩
end Go.Proofs.Ytiopnmgcajohfaa.Q
end
section
namespace Go.Proofs.Ytiopnmgcajohfaa.Q
open Go.RowKit Go.Proofs.YtiopnmgcajohfaaW.PrintWords Go.Proofs.YtiopnmgcajohfaaW.PrintLast Go.Proofs.YtiopnmgcajohfaaW.PrintMore
attribute [local go_sem] max2_int min2_int max_two min_two max_three min_three max_four min_four   -- for this text's walks alone
set_option linter.unusedVariables false
set_option linter.unusedSimpArgs false
def spec_l1In.f (a0:Int) (a1:Int) (a2:Int):Option (Bool):=if a0 ≥ a1 then (some (decide (a0≤a2))) else (some false)
set_option maxHeartbeats 8000000 in
set_option maxRecDepth 100000 in
theorem spec_l1In.calls (a0:Int) (a1:Int) (a2:Int) (r:Bool) (w:World) (h:spec_l1In.f a0 a1 a2=some r) :
  Calls Try.prog 77 #[.int .i64 a0,.int .i64 a1,.int .i64 a2] w fun e w'=>e=.returned (.bool r)∧Drawn0 w w':=by
 have H:(if a0 ≥ a1 then (some (decide (a0≤a2))) else (some false))=some r:=h;clear h;by_cases c4:a0 ≥ a1
 · rw [if_pos c4] at H;have c4b0:decide (a1≤a0)=true:=decide_eq_true c4;clear c4;obtain rfl:=Option.some.inj H;(go_enter Try.func77,Try.ntmps77);(go_wp2);(go_ret);exact ⟨by first|rfl|(simp;done)|(simp [*];done),by repeat (first|exact Drawn0.refl _|apply Drawn0.step)⟩
 · rw [if_neg c4] at H;have c4b0:decide (a1≤a0)=false:=decide_eq_false c4;clear c4;obtain rfl:=Option.some.inj H;(go_enter Try.func77,Try.ntmps77);(go_wp2);(go_ret);exact ⟨by first|rfl|(simp;done)|(simp [*];done),by repeat (first|exact Drawn0.refl _|apply Drawn0.step)⟩
end Go.Proofs.Ytiopnmgcajohfaa.Q
end
section
namespace Go.Proofs.Ytiopnmgcajohfaa.Q
open Go.RowKit Go.Proofs.YtiopnmgcajohfaaW.PrintWords Go.Proofs.YtiopnmgcajohfaaW.PrintLast Go.Proofs.YtiopnmgcajohfaaW.PrintMore
attribute [local go_sem] max2_int min2_int max_two min_two max_three min_three max_four min_four   -- for this text's walks alone
set_option linter.unusedVariables false
set_option linter.unusedSimpArgs false
def spec_boSide.f (a0:Int):Option (Bool):=(spec_l1In.f a0 1 6).bind fun t101=>(some t101)
set_option maxHeartbeats 8000000 in
set_option maxRecDepth 100000 in
theorem spec_boSide.calls (a0:Int) (r:Bool) (w:World) (h:spec_boSide.f a0=some r) :
  Calls Try.prog 107 #[.int .i64 a0] w fun e w'=>e=.returned (.bool r)∧Drawn0 w w':=by
 have H:((spec_l1In.f a0 1 6).bind fun t101=>(some t101))=some r:=h;clear h;obtain ⟨t101,A2,H⟩:=bindAside H;(try dsimp only at H);obtain rfl:=Option.some.inj H;(go_enter Try.func107,Try.ntmps107);(go_wp2_with (first|((with_reducible refine zt (f:=77) rfl ?_);refine goesL_ (some 4) rfl rfl Try.func77 (by kernel_rfl) rfl #[.int .i64 a0,.int .i64 1,.int .i64 6] rfl (by first|rfl|simp only [z3_,z4_,z5_];try rfl) ?_;(with_reducible refine (spec_l1In.calls a0 1 6 t101 _ A2.out).mono ?_);rintro e w' ⟨rfl,⟨nd,rfl⟩⟩;refine ⟨_,rfl,?_⟩)));(go_ret);exact ⟨by first|rfl|(simp;done)|(simp [*];done),by repeat (first|exact Drawn0.refl _|apply Drawn0.step)⟩
end Go.Proofs.Ytiopnmgcajohfaa.Q
end
section
namespace Go.Proofs.Ytiopnmgcajohfaa.Q
open Go.RowKit Go.Proofs.YtiopnmgcajohfaaW.PrintWords Go.Proofs.YtiopnmgcajohfaaW.PrintLast Go.Proofs.YtiopnmgcajohfaaW.PrintMore
attribute [local go_sem] max2_int min2_int max_two min_two max_three min_three max_four min_four   -- for this text's walks alone
set_option linter.unusedVariables false
set_option linter.unusedSimpArgs false
end Go.Proofs.Ytiopnmgcajohfaa.Q
end
section
namespace Go.Proofs.Ytiopnmgcajohfaa.Q
open Go.RowKit Go.Proofs.YtiopnmgcajohfaaW.PrintWords Go.Proofs.YtiopnmgcajohfaaW.PrintLast Go.Proofs.YtiopnmgcajohfaaW.PrintMore
attribute [local go_sem] max2_int min2_int max_two min_two max_three min_three max_four min_four   -- for this text's walks alone
set_option linter.unusedVariables false
set_option linter.unusedSimpArgs false
end Go.Proofs.Ytiopnmgcajohfaa.Q
end
section
namespace Go.Proofs.Ytiopnmgcajohfaa.Q
open Go.RowKit Go.Proofs.YtiopnmgcajohfaaW.PrintWords Go.Proofs.YtiopnmgcajohfaaW.PrintLast Go.Proofs.YtiopnmgcajohfaaW.PrintMore
attribute [local go_sem] max2_int min2_int max_two min_two max_three min_three max_four min_four   -- for this text's walks alone
set_option linter.unusedVariables false
set_option linter.unusedSimpArgs false
end Go.Proofs.Ytiopnmgcajohfaa.Q
end
section
namespace Go.Proofs.Ytiopnmgcajohfaa.Q
open Go.RowKit Go.Proofs.YtiopnmgcajohfaaW.PrintWords Go.Proofs.YtiopnmgcajohfaaW.PrintLast Go.Proofs.YtiopnmgcajohfaaW.PrintMore
attribute [local go_sem] max2_int min2_int max_two min_two max_three min_three max_four min_four   -- for this text's walks alone
set_option linter.unusedVariables false
set_option linter.unusedSimpArgs false
def impl_Board_has.f (a0_0:Int) (a0_1:Int) (l0_2:List Int) (a1:Int) (a2:Int):Option (Bool):=if 0≤a1 then (if a1 < (l0_2.length:Int) then (if 0≤a2 then (some ((Go.bits .and .i64 (shr .i64 (rd l0_2 a1) a2) 1) == 1)) else (none)) else (none)) else (none)
set_option maxHeartbeats 8000000 in
set_option maxRecDepth 100000 in
theorem impl_Board_has.calls (a0_0:Int) (a0_1:Int) (A0_2:Option Addr) (c0_2:Nat) (l0_2:List Int) (a1:Int) (a2:Int) (r:Bool) (w:World) (hr0_2:Kd.C (Kd.int .i64) w A0_2 l0_2.length l0_2) (hc0_2:l0_2.length≤c0_2) (h:impl_Board_has.f a0_0 a0_1 l0_2 a1 a2=some r) :
  Calls Try.prog 136 #[.agg #[.int .i64 a0_0,.int .i64 a0_1,.slice A0_2 l0_2.length c0_2],.int .i64 a1,.int .i64 a2] w fun e w'=>e=.returned (.bool r)∧Below w.heap.size w w':=by
 have hu43:=Try.underlying43;have HR0_2:=za hr0_2;have HC0_2:=za hc0_2;clear hr0_2 hc0_2;have HB:=za (Below.refl w.heap.size w);have H:(if 0≤a1 then (if a1 < (l0_2.length:Int) then (if 0≤a2 then (some ((Go.bits .and .i64 (shr .i64 (rd l0_2 a1) a2) 1) == 1)) else (none)) else (none)) else (none))=some r:=h;clear h;by_cases c4:0≤a1
 ·
  rw [if_pos c4] at H;have c4b0:decide (0≤a1)=true:=decide_eq_true c4;clear c4;by_cases c5:a1 < (l0_2.length:Int)
  ·
   rw [if_pos c5] at H;have c5b0:decide (a1 < (l0_2.length:Int))=true:=decide_eq_true c5;clear c5;by_cases c6:0≤a2
   · rw [if_pos c6] at H;have c6b0:=eq_true c6;have c6b1:decide (0≤a2)=true:=decide_eq_true c6;clear c6;obtain ⟨ji7,hji7⟩:∃ j_:Int,(shr .i64 (rd l0_2 a1) a2)=j_:=⟨_,rfl⟩;(replace H:(some ((Go.bits .and .i64 (ji7) 1) == 1))=some r:=by first|(rw [hji7] at H;exact H)|(simp only [hji7] at H ⊢;exact H));have hji7_:((rd l0_2 a1) / 2 ^ min a2.toNat 64)=ji7:=hji7;have hji7z:a2≤64→((rd l0_2 a1) / 2 ^ a2.toNat)=ji7:=shr_small hji7;obtain rfl:=Option.some.inj H;(go_enter Try.func136,Try.ntmps136);(go_wp2_with (first|((with_reducible refine gate_dst (N:=3) rfl ?_);refine box_event ?hg (N:=3) ?hd (cs:=#[.int .i64 a0_0,.int .i64 a0_1,.slice A0_2 l0_2.length c0_2]) (t:=43) ?hr ?_;(case hd=>rfl);(case hg=>rfl);(case hr=>first|(go_simp;done)|(go_simp;rfl));intro gb101 hg w8 hbox hb;have BK101:=za (hbox);have GW101:=za ((by rw [hg];exact (zq (by repeat (first|(with_reducible first|exact HB.out|apply zj|apply zk|apply zi)|exact HB.out))):w.heap.size≤gb101));have GE101:=za ((by rw [hg];exact (zq (by repeat (first|(with_reducible first|exact HB.out|apply zj|apply zk|apply zi)|exact HB.out))):w.heap.size≤gb101));replace HB:=za (zu (by repeat (first|(with_reducible first|exact HB.out|apply zj|apply zk|apply zi)|exact HB.out)) hb);clear hb hbox hg;have hcz9_0:w8.cell? ⟨gb101,0,none⟩=some (.int .i64 a0_0):=(zl BK101.out 0).trans rfl;have hcz9_1:w8.cell? ⟨gb101,1,none⟩=some (.int .i64 a0_1):=(zl BK101.out 1).trans rfl;have hcz9_2:w8.cell? ⟨gb101,2,none⟩=some (.slice A0_2 l0_2.length c0_2):=(zl BK101.out 2).trans rfl;have hfz9_0:=zm BK101.out 0;have hfz9_1:=zm BK101.out 1;have hfz9_2:=zm BK101.out 2;have p102:0≤(a1:Int):=of_decide_eq_true ‹_›;have q102:a1 < (l0_2.length:Int):=of_decide_eq_true ‹_›;obtain ⟨ad102,e102,hx102_0⟩:=Kd.at_int HR0_2.out a1 p102 q102;cases e102;replace hx102_0:=(HB.out.cell (World.block_lt_of_cell? w _ hx102_0)).trans hx102_0;replace p102:=eq_true p102;replace q102:=eq_true q102)));(go_ret);exact ⟨by first|rfl|(simp [errW_none,errW_some] <;> rfl)|(simp only [← hji7];first|rfl|(simp [errW_none,errW_some] <;> rfl))|(simp [*,errW_none,errW_some] <;> rfl),by repeat (first|(with_reducible first|exact HB.out|apply zj|apply zk|apply zi|refine zc ?_ GE101.out)|exact HB.out)⟩
   · rw [if_neg c6] at H;exact absurd H (by simp)
  · rw [if_neg c5] at H;exact absurd H (by simp)
 · rw [if_neg c4] at H;exact absurd H (by simp)
end Go.Proofs.Ytiopnmgcajohfaa.Q
end
section
namespace Go.Proofs.Ytiopnmgcajohfaa.Q
open Go.RowKit Go.Proofs.YtiopnmgcajohfaaW.PrintWords Go.Proofs.YtiopnmgcajohfaaW.PrintLast Go.Proofs.YtiopnmgcajohfaaW.PrintMore
attribute [local go_sem] max2_int min2_int max_two min_two max_three min_three max_four min_four   -- for this text's walks alone
set_option linter.unusedVariables false
set_option linter.unusedSimpArgs false
end Go.Proofs.Ytiopnmgcajohfaa.Q
end
section
namespace Go.Proofs.Ytiopnmgcajohfaa.Q
open Go.RowKit Go.Proofs.YtiopnmgcajohfaaW.PrintWords Go.Proofs.YtiopnmgcajohfaaW.PrintLast Go.Proofs.YtiopnmgcajohfaaW.PrintMore
attribute [local go_sem] max2_int min2_int max_two min_two max_three min_three max_four min_four   -- for this text's walks alone
set_option linter.unusedVariables false
set_option linter.unusedSimpArgs false
end Go.Proofs.Ytiopnmgcajohfaa.Q
end
section
namespace Go.Proofs.Ytiopnmgcajohfaa.Q
open Go.RowKit Go.Proofs.YtiopnmgcajohfaaW.PrintWords Go.Proofs.YtiopnmgcajohfaaW.PrintLast Go.Proofs.YtiopnmgcajohfaaW.PrintMore
attribute [local go_sem] max2_int min2_int max_two min_two max_three min_three max_four min_four   -- for this text's walks alone
set_option linter.unusedVariables false
set_option linter.unusedSimpArgs false
end Go.Proofs.Ytiopnmgcajohfaa.Q
end
section
namespace Go.Proofs.Ytiopnmgcajohfaa.Q
open Go.RowKit Go.Proofs.YtiopnmgcajohfaaW.PrintWords Go.Proofs.YtiopnmgcajohfaaW.PrintLast Go.Proofs.YtiopnmgcajohfaaW.PrintMore
attribute [local go_sem] max2_int min2_int max_two min_two max_three min_three max_four min_four   -- for this text's walks alone
set_option linter.unusedVariables false
set_option linter.unusedSimpArgs false
end Go.Proofs.Ytiopnmgcajohfaa.Q
end
section
namespace Go.Proofs.Ytiopnmgcajohfaa.Q
open Go.RowKit Go.Proofs.YtiopnmgcajohfaaW.PrintWords Go.Proofs.YtiopnmgcajohfaaW.PrintLast Go.Proofs.YtiopnmgcajohfaaW.PrintMore
attribute [local go_sem] max2_int min2_int max_two min_two max_three min_three max_four min_four   -- for this text's walks alone
set_option linter.unusedVariables false
set_option linter.unusedSimpArgs false
end Go.Proofs.Ytiopnmgcajohfaa.Q
end
section
namespace Go.Proofs.Ytiopnmgcajohfaa.Q
open Go.RowKit Go.Proofs.YtiopnmgcajohfaaW.PrintWords Go.Proofs.YtiopnmgcajohfaaW.PrintLast Go.Proofs.YtiopnmgcajohfaaW.PrintMore
attribute [local go_sem] max2_int min2_int max_two min_two max_three min_three max_four min_four   -- for this text's walks alone
set_option linter.unusedVariables false
set_option linter.unusedSimpArgs false
end Go.Proofs.Ytiopnmgcajohfaa.Q
end
section
namespace Go.Proofs.Ytiopnmgcajohfaa.Q
open Go.RowKit Go.Proofs.YtiopnmgcajohfaaW.PrintWords Go.Proofs.YtiopnmgcajohfaaW.PrintLast Go.Proofs.YtiopnmgcajohfaaW.PrintMore
attribute [local go_sem] max2_int min2_int max_two min_two max_three min_three max_four min_four   -- for this text's walks alone
set_option linter.unusedVariables false
set_option linter.unusedSimpArgs false
end Go.Proofs.Ytiopnmgcajohfaa.Q
end
section
namespace Go.Proofs.Ytiopnmgcajohfaa.Q
open Go.RowKit Go.Proofs.YtiopnmgcajohfaaW.PrintWords Go.Proofs.YtiopnmgcajohfaaW.PrintLast Go.Proofs.YtiopnmgcajohfaaW.PrintMore
attribute [local go_sem] max2_int min2_int max_two min_two max_three min_three max_four min_four   -- for this text's walks alone
set_option linter.unusedVariables false
set_option linter.unusedSimpArgs false
end Go.Proofs.Ytiopnmgcajohfaa.Q
end
section
namespace Go.Proofs.Ytiopnmgcajohfaa.LawK
set_option linter.unusedVariables false
open Go.RowKit Go.Proofs.Ytiopnmgcajohfaa.Q Go.Proofs.YtiopnmgcajohfaaW.PrintWords Go.Proofs.YtiopnmgcajohfaaW.PrintLast Go.Proofs.YtiopnmgcajohfaaW.PrintMore
open Go.Proofs.YtiopnmgcajohfaaL
def iota : Int → Nat → List Int
  | _, 0 => []
  | m, n + 1 => m :: iota (m + 1) n
theorem iota_length : ∀ (m : Int) (n : Nat), (iota m n).length = n
  | _, 0 => rfl
  | m, n + 1 => by rw [iota, List.length_cons, iota_length]
theorem iota_get : ∀ (n : Nat) (m : Int) (i : Nat) (h : i < (iota m n).length), (iota m n)[i] = m + i
  | 0, _, _, h => by simp [iota] at h
  | n + 1, m, 0, _ => by simp [iota]
  | n + 1, m, i + 1, h => by
    have := iota_get n (m + 1) i (by simpa [iota] using h)
    simp only [iota, List.getElem_cons_succ, this]; omega
theorem iota_snoc : ∀ (n : Nat) (m : Int), iota m (n + 1) = iota m n ++ [m + n]
  | 0, m => by simp [iota]
  | n + 1, m => by
    rw [iota, iota_snoc n (m + 1), iota, List.cons_append]
    congr 2
    simp; omega
theorem ends {g : Nat → Option Bool} (h : Ev g true) : ∃ k, g k = some true := h.rounds
end Go.Proofs.Ytiopnmgcajohfaa.LawK
end
section
namespace Go.Proofs.Ytiopnmgcajohfaa.BoardK
set_option linter.unusedVariables false
open Go.RowKit Go.Proofs.Ytiopnmgcajohfaa.Q Go.Proofs.YtiopnmgcajohfaaW.PrintWords Go.Proofs.YtiopnmgcajohfaaW.PrintLast Go.Proofs.YtiopnmgcajohfaaW.PrintMore
open Go.Proofs.YtiopnmgcajohfaaL Go.Proofs.Ytiopnmgcajohfaa.LawK
def cell (l : List Int) (r c : Nat) : Bool := (l.getD r 0).toNat.testBit c
theorem board_of {r c : Int} {l : List Int} (h : isBoardB r c l = true) : ∃ R C : Nat, r = R ∧ c = C ∧ l.length = R ∧ 1 ≤ R ∧ R ≤ 6 ∧ 1 ≤ C ∧ C ≤ 6 ∧ ∀ i (hi : i < l.length), 0 ≤ l[i] ∧ l[i] < 2 ^ C := by
  unfold isBoardB at h
  simp only [Bool.and_eq_true, decide_eq_true_eq, List.all_eq_true] at h
  obtain ⟨⟨h1, h2, h3, h4, h5⟩, h6⟩ := h
  refine ⟨r.toNat, c.toNat, by omega, by omega, by omega, by omega, by omega, by omega, by omega, fun i hi => ?_⟩
  have := h6 l[i] (List.getElem_mem hi)
  unfold rowIn at this
  simp only [decide_eq_true_eq] at this
  omega
theorem two_pow_six {C : Nat} (h : C ≤ 6) : (2 : Int) ^ C ≤ 64 := by
  have : 2 ^ C ≤ 2 ^ 6 := Nat.pow_le_pow_right (by decide) h
  exact_mod_cast this
theorem has_f {l : List Int} (r c : Int) {i j : Nat} (hi : i < l.length) (h0 : 0 ≤ l[i]) (h1 : l[i] < 64) (hj : j ≤ 64) : impl_Board_has.f r c l i j = some (cell l i j) := by
  unfold impl_Board_has.f
  rw [if_pos (by omega), if_pos (by omega), if_pos (by omega), rd_lt _ _ hi]
  obtain ⟨m, hm⟩ : ∃ m : Nat, l[i] = m := ⟨l[i].toNat, by omega⟩
  rw [hm, bit_and m j (by omega) hj]
  unfold cell
  rw [gD_lt _ _ hi, hm, Int.toNat_natCast]
  by_cases hb : m.testBit j = true <;> simp [hb]
end Go.Proofs.Ytiopnmgcajohfaa.BoardK
end
section
namespace Go.Proofs.Ytiopnmgcajohfaa.Walk
set_option linter.unusedVariables false
open Go.RowKit Go.Proofs.YtiopnmgcajohfaaW.PrintWords Go.Proofs.YtiopnmgcajohfaaW.PrintLast Go.Proofs.YtiopnmgcajohfaaW.PrintMore
open Go.Proofs.YtiopnmgcajohfaaL Go.Proofs.Ytiopnmgcajohfaa.LawK Go.Proofs.Ytiopnmgcajohfaa.BoardK
def colWays (l : List Int) (r t : Nat) (pre : List Int) (next : Nat → List Int → List (List Int)) (c : Int) : List (List Int) :=
  if c < 0 then next t (pre ++ [c])
  else if cell l r c.toNat && !t.testBit c.toNat then next (t ||| 2 ^ c.toNat) (pre ++ [c]) else []
def waysFrom (l : List Int) (C : Nat) : Nat → Nat → Nat → List Int → List (List Int)
  | 0, _, _, pre => [pre]
  | d + 1, r, t, pre => (iota (-1) (C + 1)).flatMap (colWays l r t pre (waysFrom l C d (r + 1)))
theorem iota_cut : ∀ (j n : Nat) (m : Int), j < n → iota m n = iota m j ++ (m + j) :: iota (m + j + 1) (n - j - 1)
  | 0, n + 1, m, _ => by rw [iota, iota]; simp
  | j + 1, n + 1, m, h => by
    rw [iota, iota, iota_cut j n (m + 1) (by omega), List.cons_append]
    have e1 : m + 1 + (j : Int) = m + ((j + 1 : Nat) : Int) := by omega
    rw [e1, show n + 1 - (j + 1) - 1 = n - j - 1 by omega]
theorem ways_cut (l : List Int) (C d r t : Nat) (pre : List Int) (j : Nat) (hj : j < C + 1) {x : Int} (hx : x = -1 + j) :
    waysFrom l C (d + 1) r t pre = (iota (-1) j).flatMap (colWays l r t pre (waysFrom l C d (r + 1))) ++ (colWays l r t pre (waysFrom l C d (r + 1)) x ++ (iota (x + 1) (C + 1 - j - 1)).flatMap (colWays l r t pre (waysFrom l C d (r + 1)))) := by
  rw [waysFrom, iota_cut j (C + 1) (-1) hj, List.flatMap_append, List.flatMap_cons, hx]
theorem ways_len (l : List Int) (C : Nat) : ∀ (d r t : Nat) (pre : List Int), (waysFrom l C d r t pre).length ≤ (C + 1) ^ d
  | 0, r, t, pre => by simp [waysFrom]
  | d + 1, r, t, pre => by
    have hc : ∀ c, (colWays l r t pre (waysFrom l C d (r + 1)) c).length ≤ (C + 1) ^ d := by
      intro c
      unfold colWays
      split
      · exact ways_len l C d (r + 1) _ _
      · split
        · exact ways_len l C d (r + 1) _ _
        · exact Nat.zero_le _
    have hf : ∀ (n : Nat) (m : Int), ((iota m n).flatMap (colWays l r t pre (waysFrom l C d (r + 1)))).length ≤ n * (C + 1) ^ d := by
      intro n
      induction n with
      | zero => intro m; simp [iota]
      | succ n ih =>
        intro m
        rw [iota, List.flatMap_cons, List.length_append, Nat.succ_mul]
        have h1 := hc m
        have h2 := ih (m + 1)
        omega
    rw [waysFrom, Nat.pow_succ, Nat.mul_comm]
    exact hf (C + 1) (-1)
structure Blks where (b d a p g r : Nat)
structure Blks.Apart (k : Blks) : Prop where
  bd : k.b ≠ k.d
  ba : k.b ≠ k.a
  bp : k.b ≠ k.p
  bg : k.b ≠ k.g
  br : k.b ≠ k.r
  da : k.d ≠ k.a
  dp : k.d ≠ k.p
  dg : k.d ≠ k.g
  dr : k.d ≠ k.r
  ap : k.a ≠ k.p
  ag : k.a ≠ k.g
  ar : k.a ≠ k.r
  pg : k.p ≠ k.g
  pr : k.p ≠ k.r
  gr : k.g ≠ k.r
def Blks.has (k : Blks) (i : Nat) : Prop := i = k.b ∨ i = k.d ∨ i = k.a ∨ i = k.p ∨ i = k.g ∨ i = k.r
structure Still (S : Nat → Prop) (w w' : World) : Prop where
  kept : Kept w w' S
  os : w'.os = w.os
  tape : w'.tape = w.tape
  output : w'.output = w.output
theorem Still.refl (S : Nat → Prop) (w : World) : Still S w w := ⟨Kept.refl _ _, rfl, rfl, rfl⟩
theorem Still.of_below {S : Nat → Prop} {w w' : World} (h : Below w.heap.size w w') : Still S w w' := ⟨Kept.of_below h S, h.os, h.tape, h.output⟩
theorem Still.set {S : Nat → Prop} (w : World) {a : Addr} (h : S a.block) (v : Value) : Still S w (w.setCell a v) := ⟨Kept.setCell (Kept.refl _ _) (.inl h) v, rfl, rfl, rfl⟩
theorem Still.drewN {S : Nat → Prop} (w : World) (n : Nat) : Still S w (w.drewN n) := ⟨Kept.drewN (Kept.refl _ _) n, rfl, rfl, rfl⟩
theorem Still.trans {S : Nat → Prop} {a b c : World} (h : Still S a b) (k : Still S b c) : Still S a c := ⟨h.kept.then_ k.kept (fun _ hk => .inl hk), k.os.trans h.os, k.tape.trans h.tape, k.output.trans h.output⟩
theorem Still.below {S : Nat → Prop} {w0 w w' : World} (h : Below w0.heap.size w0 w) (k : Still S w w') (hS : ∀ i, S i → w0.heap.size ≤ i) : Below w0.heap.size w0 w' :=
  ⟨k.os.trans h.os, k.tape.trans h.tape, k.output.trans h.output, Nat.le_trans h.size k.kept.1, fun i hi => (k.kept.2 i (Nat.lt_of_lt_of_le hi h.size) (fun hs => by have := hS i hs; omega)).trans (h.block i hi)⟩
structure WSt (k : Blks) (Inv : List (List Int) → World → Prop) (RI CI : Int) (n cp : Nat) (l : List Int) (A0 : Option Addr) (c0 : Nat) (F : Value) (vis : List (List Int)) (ps : List Int) (w : World) : Prop where
  cB : w.heap[k.b]? = some (.cells #[.int .i64 RI, .int .i64 CI, .slice A0 l.length c0] 43 (0, 0))
  cD : w.heap[k.d]? = some (.cells #[F] 37 (0, 0))
  cA : Kd.R (Kd.int .i64) 3 w 0 (fun i => i = k.a) (.slice (some ⟨k.a, 0, none⟩) n cp) ps
  cP : w.heap[k.p]? = some (.cells #[.slice (some ⟨k.a, 0, none⟩) n cp] 28 (0, 0))
  cG : w.heap[k.g]? = some (.cells #[.bool true] 4 (0, 0))
  cR : w.heap[k.r]? = some (.cells #[.func (.func 152) #[] #[.pointer (some ⟨k.b, 0, none⟩), .pointer (some ⟨k.d, 0, none⟩), .pointer (some ⟨k.p, 0, none⟩), .pointer (some ⟨k.g, 0, none⟩), .pointer (some ⟨k.r, 0, none⟩)]] 106 (0, 0))
  inv : Inv vis w
section
variable {k : Blks} {Inv : List (List Int) → World → Prop} {RI CI : Int} {n cp : Nat} {l : List Int} {A0 : Option Addr} {c0 : Nat} {F : Value} {vis : List (List Int)} {ps : List Int} {w w' : World}
theorem WSt.below (hI : ∀ vis w w', Inv vis w → Still k.has w w' → Inv vis w') (h : WSt k Inv RI CI n cp l A0 c0 F vis ps w) (hb : Below w.heap.size w w') : WSt k Inv RI CI n cp l A0 c0 F vis ps w' :=
  ⟨blk_below h.cB hb, blk_below h.cD hb, Kd.R_below h.cA hb, blk_below h.cP hb, blk_below h.cG hb, blk_below h.cR hb, hI _ _ _ h.inv (Still.of_below hb)⟩
theorem WSt.drewN (hI : ∀ vis w w', Inv vis w → Still k.has w w' → Inv vis w') (h : WSt k Inv RI CI n cp l A0 c0 F vis ps w) (m : Nat) : WSt k Inv RI CI n cp l A0 c0 F vis ps (w.drewN m) :=
  h.below hI (pw_below_drewN (Below.refl _ _) m)
theorem WSt.setA (hI : ∀ vis w w', Inv vis w → Still k.has w w' → Inv vis w') (hk : k.Apart) (h : WSt k Inv RI CI n cp l A0 c0 F vis ps w) (i c : Int) : WSt k Inv RI CI n cp l A0 c0 F vis (ps.set i.toNat c) (w.setCell ⟨k.a, i.toNat, none⟩ (.int .i64 c)) :=
  ⟨blk_far h.cB hk.ba _, blk_far h.cD hk.da _, Kd.R_putn h.cA i c, blk_far h.cP hk.ap.symm _, blk_far h.cG hk.ag.symm _, blk_far h.cR hk.ar.symm _, hI _ _ _ h.inv (Still.set w (.inr (.inr (.inl rfl))) _)⟩
theorem WSt.setG (hI : ∀ vis w w', Inv vis w → Still k.has w w' → Inv vis w') (hk : k.Apart) (h : WSt k Inv RI CI n cp l A0 c0 F vis ps w) : WSt k Inv RI CI n cp l A0 c0 F vis ps (w.setCell ⟨k.g, 0, none⟩ (.bool true)) :=
  ⟨blk_far h.cB hk.bg _, blk_far h.cD hk.dg _, Kd.R_far h.cA (fun i hi => by rw [hi]; exact hk.ag) _, blk_far h.cP hk.pg _, blk_put h.cG 0 _ rfl, blk_far h.cR hk.gr.symm _, hI _ _ _ h.inv (Still.set w (.inr (.inr (.inr (.inr (.inl rfl))))) _)⟩
end
end Go.Proofs.Ytiopnmgcajohfaa.Walk
end
section
namespace Go.Proofs.Ytiopnmgcajohfaa.Q
open Go.RowKit Go.Proofs.YtiopnmgcajohfaaW.PrintWords Go.Proofs.YtiopnmgcajohfaaW.PrintLast Go.Proofs.YtiopnmgcajohfaaW.PrintMore
attribute [local go_sem] max2_int min2_int max_two min_two max_three min_three max_four min_four   -- for this text's walks alone
set_option linter.unusedVariables false
set_option linter.unusedSimpArgs false
def impl_rooks.l0:Nat→Int→List Int→Int→Int→Option (Int)
|0,_,_,_,_=>none
|k + 1,x3,x6,x7,x8=>if x8 < x7 then (if 0≤x8 then (if x8 < (x6.length:Int) then (if (rd x6 x8)=(-1) then (impl_rooks.l0 k x3 x6 x7 (wrap64 (x8 + 1))) else (impl_rooks.l0 k (wrap64 (x3 + 1)) x6 x7 (wrap64 (x8 + 1)))) else (none)) else (none)) else (some x3)
def impl_rooks.f (k:Nat) (l0:List Int):Option (Int):=impl_rooks.l0 k 0 l0 (l0.length:Int) 0
set_option maxHeartbeats 8000000 in
set_option maxRecDepth 100000 in
theorem impl_rooks.calls (k:Nat) (A0:Option Addr) (c0:Nat) (l0:List Int) (r:Int) (w:World) (hr0:Kd.C (Kd.int .i64) w A0 l0.length l0) (hc0:l0.length≤c0) (h:impl_rooks.f k l0=some r) :
  Calls Try.prog 141 #[.slice A0 l0.length c0] w fun e w'=>e=.returned (.int .i64 r)∧Drawn0 w w':=by
 have HR0:=za hr0;have HC0:=za hc0;clear hr0 hc0;have H:(impl_rooks.l0 k 0 l0 (l0.length:Int) 0)=some r:=h;clear h;have H':=za H;clear H;(go_enter Try.func141,Try.ntmps141);(go_wp2);(go_loopg [3,8] k (fun kq v3 v8 w'=>∃ (x3_1:Int) (x8_1:Int),v3=.int .i64 x3_1∧v8=.int .i64 x8_1∧Aside0 (impl_rooks.l0 kq x3_1 l0 (l0.length:Int) x8_1=some r)∧Aside0 (kq≤k)∧Drawn0 w w'));case atStart=>exact ⟨(0),(0),(by first|rfl|(simp;done)|(simp [*];done)),(by first|rfl|(simp;done)|(simp [*];done)),H',⟨Nat.le_refl _⟩,by repeat (first|exact Drawn0.refl _|apply Drawn0.step)⟩
 case round =>
  clear H';(try clear c1);obtain ⟨x3_1,x8_1,rfl,rfl,HA,HK1,⟨m1,rfl⟩⟩:=hrel
  cases gk with
 |zero=>exact absurd HA.out (by simp [impl_rooks.l0])
 |succ k1 =>
   have H:=HA.out;clear HA;simp only [impl_rooks.l0] at H;by_cases c2:x8_1 < (l0.length:Int)
   ·
    rw [if_pos c2] at H;have c2b0:decide (x8_1 < (l0.length:Int))=true:=decide_eq_true c2;clear c2;by_cases c3:0≤x8_1
    ·
     rw [if_pos c3] at H;have c3b0:decide (0≤x8_1)=true:=decide_eq_true c3;clear c3;by_cases c4:x8_1 < (l0.length:Int)
     ·
      rw [if_pos c4] at H;have c4b0:decide (x8_1 < (l0.length:Int))=true:=decide_eq_true c4;clear c4;by_cases c5:(rd l0 x8_1)=(-1)
      · rw [if_pos c5] at H;have c5b0:((rd l0 x8_1) == (-1))=true:=beq_iff_eq.mpr c5;have c5b1:((rd l0 x8_1) != (-1))=false:=bne_eq_false_iff_eq.mpr c5;clear c5;have H':=za H;clear H;have p101:0≤(x8_1:Int):=of_decide_eq_true ‹_›;have q101:x8_1 < (l0.length:Int):=of_decide_eq_true ‹_›;obtain ⟨ad101,e101,hx101_0⟩:=Kd.at_int HR0.out x8_1 p101 q101;cases e101;replace p101:=eq_true p101;replace q101:=eq_true q101;(go_wp2);(go_roundg k1);(case measure=>have:=HK1.out;omega);case rel=>exact ⟨(x3_1),(wrap64 (x8_1 + 1)),(by first|rfl|(simp;done)|(simp [*];done)),(by first|rfl|(simp;done)|(simp [*];done)),H',⟨by have:=HK1.out;omega⟩,by repeat (first|exact Drawn0.refl _|apply Drawn0.step)⟩
      · rw [if_neg c5] at H;have c5b0:((rd l0 x8_1) == (-1))=false:=beq_eq_false_iff_ne.mpr c5;have c5b1:((rd l0 x8_1) != (-1))=true:=bne_iff_ne.mpr c5;have H':=za H;clear H;have p101:0≤(x8_1:Int):=of_decide_eq_true ‹_›;have q101:x8_1 < (l0.length:Int):=of_decide_eq_true ‹_›;obtain ⟨ad101,e101,hx101_0⟩:=Kd.at_int HR0.out x8_1 p101 q101;cases e101;replace p101:=eq_true p101;replace q101:=eq_true q101;(go_wp2);(go_roundg k1);(case measure=>have:=HK1.out;omega);case rel=>exact ⟨(wrap64 (x3_1 + 1)),(wrap64 (x8_1 + 1)),(by first|rfl|(simp;done)|(simp [*];done)),(by first|rfl|(simp;done)|(simp [*];done)),H',⟨by have:=HK1.out;omega⟩,by repeat (first|exact Drawn0.refl _|apply Drawn0.step)⟩
     · rw [if_neg c4] at H;exact absurd H (by simp)
    · rw [if_neg c3] at H;exact absurd H (by simp)
   · rw [if_neg c2] at H;have c2b0:decide (x8_1 < (l0.length:Int))=false:=decide_eq_false c2;clear c2;obtain rfl:=Option.some.inj H;(go_wp2);(go_ret);exact ⟨by first|rfl|(simp;done)|(simp [*];done),by repeat (first|exact Drawn0.refl _|apply Drawn0.step)⟩
end Go.Proofs.Ytiopnmgcajohfaa.Q
end
section
namespace Go.Proofs.Ytiopnmgcajohfaa.Walk
set_option linter.unusedVariables false
open Go.RowKit Go.Proofs.YtiopnmgcajohfaaW.PrintWords Go.Proofs.YtiopnmgcajohfaaW.PrintLast Go.Proofs.YtiopnmgcajohfaaW.PrintMore
open Go.Proofs.YtiopnmgcajohfaaL Go.Proofs.Ytiopnmgcajohfaa.LawK Go.Proofs.Ytiopnmgcajohfaa.BoardK Go.Proofs.Ytiopnmgcajohfaa.Q
def rooksN (l : List Int) : Nat := l.countP (fun x => x != -1)
theorem rooks_l0 {l : List Int} (hl : l.length ≤ 1048576) : ∀ (d i n : Nat), i + d = l.length → n ≤ i → Ev (fun k => impl_rooks.l0 k n l (l.length : Int) i) ((n + rooksN (l.drop i) : Nat) : Int)
  | 0, i, n, hi, hn => by
    refine Ev.step (f := fun _ => some ((n + rooksN (l.drop i) : Nat) : Int)) (fun k => ?_) (Ev.now _)
    rw [impl_rooks.l0, if_neg (by omega), List.drop_eq_nil_of_le (by omega)]; rfl
  | d + 1, i, n, hi, hn => by
    have h1 : wrap64 ((i : Int) + 1) = ((i + 1 : Nat) : Int) := by rw [w64 (by omega) (by omega)]; rfl
    have h2 : wrap64 ((n : Int) + 1) = ((n + 1 : Nat) : Int) := by rw [w64 (by omega) (by omega)]; rfl
    have hi2 : i < l.length := by omega
    rw [List.drop_eq_getElem_cons hi2, rooksN, List.countP_cons]
    by_cases hx : l[i] = -1
    · have ih := rooks_l0 hl d (i + 1) n (by omega) (by omega)
      rw [rooksN] at ih
      rw [if_neg (by simp [hx]), Nat.add_zero]
      refine Ev.step (fun k => ?_) ih
      rw [impl_rooks.l0, if_pos (by omega), if_pos (by omega), if_pos (by omega), rd_lt _ _ hi2, if_pos hx, h1]
    · have ih := rooks_l0 hl d (i + 1) (n + 1) (by omega) (by omega)
      rw [rooksN] at ih
      rw [if_pos (by simpa using hx)]
      rw [show n + (List.countP (fun x => x != -1) (List.drop (i + 1) l) + 1) = n + 1 + List.countP (fun x => x != -1) (List.drop (i + 1) l) by omega]
      refine Ev.step (fun k => ?_) ih
      rw [impl_rooks.l0, if_pos (by omega), if_pos (by omega), if_pos (by omega), rd_lt _ _ hi2, if_neg hx, h1, h2]
theorem rooks_f {l : List Int} (hl : l.length ≤ 1048576) : ∃ k, impl_rooks.f k l = some (rooksN l : Int) := by
  have h := rooks_l0 hl l.length 0 0 (by omega) (by omega)
  rw [List.drop_zero, Nat.zero_add] at h
  exact h.rounds
end Go.Proofs.Ytiopnmgcajohfaa.Walk
end
section
namespace Go.Proofs.Ytiopnmgcajohfaa.Q
open Go.RowKit Go.Proofs.YtiopnmgcajohfaaW.PrintWords Go.Proofs.YtiopnmgcajohfaaW.PrintLast Go.Proofs.YtiopnmgcajohfaaW.PrintMore
attribute [local go_sem] max2_int min2_int max_two min_two max_three min_three max_four min_four   -- for this text's walks alone
set_option linter.unusedVariables false
set_option linter.unusedSimpArgs false
def impl_newBoard.f (a0:Int) (a1:Int):Option (Int × Int × List Int):=if 0≤a0 then (if (a0:Int).toNat≤35184372088832 then (some (a0,a1,(List.replicate (a0:Int).toNat 0))) else (none)) else (none)
set_option maxHeartbeats 8000000 in
set_option maxRecDepth 100000 in
theorem impl_newBoard.calls (a0:Int) (a1:Int) (r1:Int) (r2:Int) (r3:List Int) (w:World) (h:impl_newBoard.f a0 a1=some (r1,r2,r3)) :
  Calls Try.prog 145 #[.int .i64 a0,.int .i64 a1] w fun e w'=>∃ v2_:Value,e=.returned (.agg #[.int .i64 r1,.int .i64 r2,v2_])∧Kd.R (Kd.int .i64) 3 w' w.heap.size (fun _=>True) v2_ r3∧Below w.heap.size w w':=by
 have hu43:=Try.underlying43;have HB:=za (Below.refl w.heap.size w);have H:(if 0≤a0 then (if (a0:Int).toNat≤35184372088832 then (some (a0,a1,(List.replicate (a0:Int).toNat 0))) else (none)) else (none))=some (r1,r2,r3):=h;clear h;by_cases c3:0≤a0
 ·
  rw [if_pos c3] at H;have c3b0:=eq_true c3;have c3b1:decide (0≤a0)=true:=decide_eq_true c3;clear c3;by_cases c4:(a0:Int).toNat≤35184372088832
  · rw [if_pos c4] at H;have c4b0:=eq_true c4;have c4b1:decide ((a0:Int).toNat≤35184372088832)=true:=decide_eq_true c4;clear c4;obtain ⟨y102,hy102⟩:∃ y_:List Int,y_=(List.replicate (a0:Int).toNat 0):=⟨_,rfl⟩;(replace H:(some (a0,a1,y102))=some (r1,r2,r3):=by first|(rw [hy102];with_reducible exact H)|(have H2_:=(Option.bind_some _ _).symm.trans H;rw [hy102];with_reducible exact H2_)|(have H2_:=(Option.bind_some _ _).symm.trans H;with_reducible exact H2_)|with_reducible exact H|(rw [hy102];exact H)|exact H);have Ny102:=za hy102;clear hy102;simp only [Option.some.injEq,Prod.mk.injEq] at H;obtain ⟨rfl,rfl,rfl⟩:=H;(go_enter Try.func145,Try.ntmps145);(go_wp2_with (first|((with_reducible refine gate_dst (N:=4) rfl ?_);refine box_event ?hg (N:=4) ?hd (cs:=#[.int .i64 0,.int .i64 0,.slice none 0 0]) (t:=43) ?hr ?_;(case hd=>rfl);(case hg=>rfl);(case hr=>first|(go_simp;done)|(go_simp;rfl));intro gb101 hg w5 hbox hb;have BK101:=za (hbox);have GW101:=za ((by rw [hg];exact (zq (by repeat (first|(with_reducible first|exact HB.out|apply zj|apply zk|apply zi)|exact HB.out))):w.heap.size≤gb101));have GE101:=za ((by rw [hg];exact (zq (by repeat (first|(with_reducible first|exact HB.out|apply zj|apply zk|apply zi)|exact HB.out))):w.heap.size≤gb101));replace HB:=za (zu (by repeat (first|(with_reducible first|exact HB.out|apply zj|apply zk|apply zi)|exact HB.out)) hb);clear hb hbox hg)|((with_reducible refine gate_dst (N:=8) rfl ?_);refine Kd.R_make (Kd.int .i64) _ 3 rfl (N:=8) rfl 28 _ _ rfl a0 rfl rfl Try.underlying28 (.int .i64 0) 8 info3 rfl (by decide) (by omega) 0 (ok:=fun _=>True) (okp:=fun _=>True) rfl (fun _ hk=>hk) trivial (of_decide_eq_true ‹_›) (Nat.le_trans (Nat.mul_le_mul_right _ (of_decide_eq_true ‹_›:a0.toNat≤35184372088832)) (by omega)) (Below.refl _ _) (Nat.le_refl _) ?_;intro v103 w6 ho7 hb hg_ hnew_;clear hg_ hnew_;(first|rw [← Ny102.out] at ho7|(simp only [Int.reduceToNat] at ho7;rw [← Ny102.out] at ho7));have HO104:=za (Kd.R_lower ho7 (zq (by repeat (first|(with_reducible first|exact HB.out|apply zj|apply zk|apply zi|refine zc ?_ GE101.out)|exact HB.out))));replace BK101:=za (zo (g:=gb101) (o:=.cells #[.int .i64 0,.int .i64 0,.slice none 0 0] 43 (0,0)) (by apply_rules only [BK101.out,zd,zb,ze]) hb);replace HB:=za (zu (by repeat (first|(with_reducible first|exact HB.out|apply zj|apply zk|apply zi|refine zc ?_ GE101.out)|exact HB.out)) hb);clear hb ho7;obtain ⟨Ao8,co8,eo8⟩:=Kd.R_slice HO104.out;subst eo8;have hcz9_0:w6.cell? ⟨gb101,0,none⟩=some (.int .i64 0):=(zl BK101.out 0).trans rfl;have hcz9_1:w6.cell? ⟨gb101,1,none⟩=some (.int .i64 0):=(zl BK101.out 1).trans rfl;have hcz9_2:w6.cell? ⟨gb101,2,none⟩=some (.slice none 0 0):=(zl BK101.out 2).trans rfl;have hfz9_0:=zm BK101.out 0;have hfz9_1:=zm BK101.out 1;have hfz9_2:=zm BK101.out 2)));refine bodyPost_ret (results_cell_row rfl _ _ gb101 43 #[.int .i64 a0,.int .i64 a1,.slice Ao8 y102.length co8] (0,0) _ rfl (by (with_reducible repeat (first|refine zd ?_ _|refine zb ?_|refine ze ?_ _));refine blk_put (cs:=#[.int .i64 a0,.int .i64 a1,.slice none 0 0]) ?_ 2 _ rfl;(with_reducible repeat (first|refine zd ?_ _|refine zb ?_|refine ze ?_ _));refine blk_put (cs:=#[.int .i64 a0,.int .i64 0,.slice none 0 0]) ?_ 1 _ rfl;(with_reducible repeat (first|refine zd ?_ _|refine zb ?_|refine ze ?_ _));refine blk_put (cs:=#[.int .i64 0,.int .i64 0,.slice none 0 0]) ?_ 0 _ rfl;(with_reducible repeat (first|refine zd ?_ _|refine zb ?_|refine ze ?_ _));exact BK101.out) Try.underlying43 rfl (by kernel_rfl)) rfl ?_;exact ⟨_,by first|rfl|simp [*,errW_none,errW_some] <;> rfl,by (with_reducible repeat (first|apply zg|apply zh|apply zf));exact zp (zn (p:=⟨gb101,2,none⟩) (zn (p:=⟨gb101,1,none⟩) (zn (p:=⟨gb101,0,none⟩) (zw HO104.out BK101.out (by decide)) (fun _ hk=>hk.2) (.int .i64 a0)) (fun _ hk=>hk.2) (.int .i64 a1)) (fun _ hk=>hk.2) (.slice Ao8 y102.length co8)) (fun _ hk=>trivial),by repeat (first|(with_reducible first|exact HB.out|apply zj|apply zk|apply zi|refine zc ?_ GE101.out)|exact HB.out)⟩
  · rw [if_neg c4] at H;exact absurd H (by simp)
 · rw [if_neg c3] at H;exact absurd H (by simp)
end Go.Proofs.Ytiopnmgcajohfaa.Q
end
section
namespace Go.Proofs.Ytiopnmgcajohfaa.Q
open Go.RowKit Go.Proofs.YtiopnmgcajohfaaW.PrintWords Go.Proofs.YtiopnmgcajohfaaW.PrintLast Go.Proofs.YtiopnmgcajohfaaW.PrintMore
attribute [local go_sem] max2_int min2_int max_two min_two max_three min_three max_four min_four   -- for this text's walks alone
set_option linter.unusedVariables false
set_option linter.unusedSimpArgs false
mutual
def impl_FullBoard.j0:Nat→Int→Int→Bool→Option (Int × Int × List Int × Bool)
|0,_,_,_=>none
|k + 1,x0,x1,x15=>if x15=true then (some (0,0,([]:List Int),false)) else ((impl_newBoard.f x0 x1).bind fun bt104=>(impl_FullBoard.l0 k x1 (bt104.2.2.length:Int) 0 bt104.1 bt104.2.1 bt104.2.2))
def impl_FullBoard.l0:Nat→Int→Int→Int→Int→Int→List Int→Option (Int × Int × List Int × Bool)
|0,_,_,_,_,_,_=>none
|k + 1,x1,x22,x23,x110000,x110001,x110002=>if x23 < x22 then (if 0≤x1 then (if 0≤x23 then (if x23 < (x110002.length:Int) then (impl_FullBoard.l0 k x1 x22 (wrap64 (x23 + 1)) x110000 x110001 (x110002.set (x23:Int).toNat (wrap64 ((shl .i64 1 x1) - 1)))) else (none)) else (none)) else (none)) else (some (x110000,x110001,x110002,true))
end
def impl_FullBoard.f (k:Nat) (a0:Int) (a1:Int):Option (Int × Int × List Int × Bool):=(impl_isSide.f a0).bind fun t102=>(if t102=true then ((impl_isSide.f a1).bind fun t103=>(impl_FullBoard.j0 k a0 a1 (!t103))) else (impl_FullBoard.j0 k a0 a1 true))
def impl_FullBoard.T7:Bool × List (List Nat × List Nat):=(true,[([],[]),([0],[0]),([],[]),([],[]),([3],[3]),([4],[4]),([1,2,0,1,2,3,4,5],[1,2]),([6,5,0,1,2,3,4,5],[5,6])])
def impl_FullBoard.B7:List Nat:=[0,1,0,0,8,24,63,127]
theorem impl_FullBoard.tab7:rtab .any (opsOf Try.f138 7)=impl_FullBoard.T7:=by kernel_rfl
theorem impl_FullBoard.bits7:waitsOk impl_FullBoard.T7.2 impl_FullBoard.B7=true:=by kernel_rfl
set_option maxHeartbeats 8000000 in
set_option maxRecDepth 100000 in
theorem impl_FullBoard.calls (k:Nat) (a0:Int) (a1:Int) (r1:Int) (r2:Int) (r3:List Int) (r4:Bool) (w:World) (h:impl_FullBoard.f k a0 a1=some (r1,r2,r3,r4)) :
  Calls Try.prog 138 #[.int .i64 a0,.int .i64 a1] w fun e w'=>∃ v2_:Value,e=.returned (.tuple #[.agg #[.int .i64 r1,.int .i64 r2,v2_],.bool r4])∧Kd.R (Kd.int .i64) 3 w' w.heap.size (fun _=>True) v2_ r3∧Below w.heap.size w w':=by
 have hu43:=Try.underlying43;have HB:=za (Below.refl w.heap.size w);have H:((impl_isSide.f a0).bind fun t102=>(if t102=true then ((impl_isSide.f a1).bind fun t103=>(impl_FullBoard.j0 k a0 a1 (!t103))) else (impl_FullBoard.j0 k a0 a1 true)))=some (r1,r2,r3,r4):=h;clear h;have HC3:=za H;clear H;(go_enter Try.func138,Try.ntmps138);(go_upto_region 1 with (first|((with_reducible refine gate_dst (N:=4) rfl ?_);refine box_event ?hg (N:=4) ?hd (cs:=#[.int .i64 0,.int .i64 0,.slice none 0 0]) (t:=43) ?hr ?_;(case hd=>rfl);(case hg=>rfl);(case hr=>first|(go_simp;done)|(go_simp;rfl));intro gb101 hg w4 hbox hb;have BK101:=za (hbox);have GW101:=za ((by rw [hg];exact (zq (by repeat (first|(with_reducible first|exact HB.out|apply zj|apply zk|apply zi)|exact HB.out))):w.heap.size≤gb101));have GE101:=za ((by rw [hg];exact (zq (by repeat (first|(with_reducible first|exact HB.out|apply zj|apply zk|apply zi)|exact HB.out))):w.heap.size≤gb101));replace HB:=za (zu (by repeat (first|(with_reducible first|exact HB.out|apply zj|apply zk|apply zi)|exact HB.out)) hb);clear hb hbox hg)));(try simp only [Act.put,z0_,z1_,z2_]);go_cut [15] (fun v15 wc=>∃ (kq:Nat) (x15_2:Bool),v15=.bool x15_2∧Aside0 (impl_FullBoard.j0 kq a0 a1 x15_2=some (r1,r2,r3,r4))∧Aside0 (kq≤k)∧Aside0 (wc.heap[gb101]?=some (.cells #[.int .i64 0,.int .i64 0,(.slice none 0 0)] 43 (0,0)))∧Aside0 (Below w.heap.size w wc))
 case first =>
  have H:=HC3.out;clear HC3;obtain ⟨t102,A5,H⟩:=bindAside H;(try dsimp only at H);by_cases c6:t102=true
  · subst c6;(have H1:((impl_isSide.f a1).bind fun t103=>(impl_FullBoard.j0 k a0 a1 (!t103)))=some (r1,r2,r3,r4):=by rw [if_pos rfl] at H;exact H);clear H;have H:=H1;clear H1;obtain ⟨t103,A7,H⟩:=bindAside H;(try dsimp only at H);have H':=za H;clear H;(go_wp2_with (first|((with_reducible refine zt (f:=104) rfl ?_);refine goesL_ (some 9) rfl rfl Try.func104 (by kernel_rfl) rfl #[.int .i64 a0] rfl (by first|rfl|simp only [z3_,z4_,z5_];try rfl) ?_;(with_reducible refine (impl_isSide.calls a0 true _ A5.out).mono ?_);rintro e w' ⟨rfl,⟨nd,rfl⟩⟩;refine ⟨_,rfl,?_⟩)|(go_at_call 104;(with_reducible refine (impl_isSide.calls a1 t103 _ A7.out).mono ?_);rintro e w' ⟨rfl,⟨nd,rfl⟩⟩)));(go_meet);case rel=>exact ⟨_,(!t103),(by first|rfl|(simp;done)|(simp [*];done)),H',⟨by first|omega|exact Nat.le_refl _⟩,⟨by (with_reducible repeat (first|refine zd ?_ _|refine zb ?_|refine ze ?_ _));exact BK101.out⟩,⟨by repeat (first|(with_reducible first|exact HB.out|apply zj|apply zk|apply zi|refine zc ?_ GE101.out)|exact HB.out)⟩⟩
  · replace c6:=Bool.eq_false_iff.mpr c6;subst c6;(have H1:(impl_FullBoard.j0 k a0 a1 true)=some (r1,r2,r3,r4):=by rw [if_neg (show ¬ (false=true) by decide)] at H;exact H);clear H;have H:=H1;clear H1;have H':=za H;clear H;(go_wp2_with (first|((with_reducible refine zt (f:=104) rfl ?_);refine goesL_ (some 9) rfl rfl Try.func104 (by kernel_rfl) rfl #[.int .i64 a0] rfl (by first|rfl|simp only [z3_,z4_,z5_];try rfl) ?_;(with_reducible refine (impl_isSide.calls a0 false _ A5.out).mono ?_);rintro e w' ⟨rfl,⟨nd,rfl⟩⟩;refine ⟨_,rfl,?_⟩)));(go_meet);case rel=>exact ⟨_,(true),(by first|rfl|(simp;done)|(simp [*];done)),H',⟨by first|omega|exact Nat.le_refl _⟩,⟨by (with_reducible repeat (first|refine zd ?_ _|refine zb ?_|refine ze ?_ _));exact BK101.out⟩,⟨by repeat (first|(with_reducible first|exact HB.out|apply zj|apply zk|apply zi|refine zc ?_ GE101.out)|exact HB.out)⟩⟩
 case rest =>
  clear HC3;(try clear c1);(try clear p2);(try clear c6);obtain ⟨kq,x15_2,rfl,HA,HJ2,BK101,HB⟩:=hcut
  cases kq with
 |zero=>exact absurd HA.out (by simp [impl_FullBoard.j0])
 |succ kj2 =>
   have H:=HA.out;clear HA;simp only [impl_FullBoard.j0] at H;by_cases c8:x15_2=true
   · subst c8;(have H1:(some (0,0,([]:List Int),false))=some (r1,r2,r3,r4):=by rw [if_pos rfl] at H;exact H);clear H;have H:=H1;clear H1;simp only [Option.some.injEq,Prod.mk.injEq] at H;obtain ⟨rfl,rfl,rfl,rfl⟩:=H;have hcz9_0:wc.cell? ⟨gb101,0,none⟩=some (.int .i64 0):=(zl BK101.out 0).trans rfl;have hcz9_1:wc.cell? ⟨gb101,1,none⟩=some (.int .i64 0):=(zl BK101.out 1).trans rfl;have hcz9_2:wc.cell? ⟨gb101,2,none⟩=some (.slice none 0 0):=(zl BK101.out 2).trans rfl;have hfz9_0:=zm BK101.out 0;have hfz9_1:=zm BK101.out 1;have hfz9_2:=zm BK101.out 2;(go_wp2);refine bodyPost_ret (results_ct rfl _ _ gb101 43 #[.int .i64 0,.int .i64 0,.slice none 0 0] (0,0) _ rfl (by (with_reducible repeat (first|refine zd ?_ _|refine zb ?_|refine ze ?_ _));refine blk_put (cs:=#[.int .i64 0,.int .i64 0,.slice none 0 0]) ?_ 2 _ rfl;(with_reducible repeat (first|refine zd ?_ _|refine zb ?_|refine ze ?_ _));refine blk_put (cs:=#[.int .i64 0,.int .i64 0,.slice none 0 0]) ?_ 1 _ rfl;(with_reducible repeat (first|refine zd ?_ _|refine zb ?_|refine ze ?_ _));refine blk_put (cs:=#[.int .i64 0,.int .i64 0,.slice none 0 0]) ?_ 0 _ rfl;(with_reducible repeat (first|refine zd ?_ _|refine zb ?_|refine ze ?_ _));exact BK101.out) Try.underlying43 rfl (by kernel_rfl)) rfl ?_;exact ⟨_,by first|rfl|simp [*,errW_none,errW_some] <;> rfl,by first|exact Kd.R_nil _ _ _ _ _|exact Kd.N_nil _ _ _ _ _|exact Kd.V_nil _ _ _ _ _|exact Kd.Q_nil _ _ _ _ _|exact Kd.S_nil _ _ _ _ _,by repeat (first|(with_reducible first|exact HB.out|apply zj|apply zk|apply zi|refine zc ?_ GE101.out)|exact HB.out)⟩
   ·
    replace c8:=Bool.eq_false_iff.mpr c8;subst c8;(have H1:((impl_newBoard.f a0 a1).bind fun bt104=>(impl_FullBoard.l0 kj2 a1 (bt104.2.2.length:Int) 0 bt104.1 bt104.2.1 bt104.2.2))=some (r1,r2,r3,r4):=by rw [if_neg (show ¬ (false=true) by decide)] at H;exact H);clear H;have H:=H1;clear H1;obtain ⟨⟨t104,t105,t106⟩,A10,H⟩:=bindAside H;(try dsimp only at H);have H':=za H;clear H;(go_wp2_with (first|((with_reducible refine zt (f:=145) rfl ?_);refine goesL_ (some 19) rfl rfl Try.func145 (by kernel_rfl) rfl #[.int .i64 a0,.int .i64 a1] rfl (by first|rfl|simp only [z3_,z4_,z5_];try rfl) ?_;(with_reducible refine (impl_newBoard.calls a0 a1 t104 t105 t106 _ A10.out).mono ?_);rintro e w11 ⟨v107,rfl,ho0,hb⟩;refine ⟨_,rfl,?_⟩;have HO108:=za (Kd.R_lower ho0 (zq (by repeat (first|(with_reducible first|exact HB.out|apply zj|apply zk|apply zi|refine zc ?_ GE101.out)|exact HB.out))));replace BK101:=za (zo (g:=gb101) (o:=.cells #[.int .i64 0,.int .i64 0,.slice none 0 0] 43 (0,0)) (by apply_rules only [BK101.out,zd,zb,ze]) hb);replace HB:=za (zu (by repeat (first|(with_reducible first|exact HB.out|apply zj|apply zk|apply zi|refine zc ?_ GE101.out)|exact HB.out)) hb))|((with_reducible refine gate_dst (N:=6) rfl ?_);refine box_event ?hg (N:=6) ?hd (cs:=#[.int .i64 0,.int .i64 0,.slice none 0 0]) (t:=43) ?hr ?_;(case hd=>rfl);(case hg=>rfl);(case hr=>first|(go_simp;done)|(go_simp;rfl));intro gb109 hg w12 hbox hb;replace HO108:=za (zr (by (with_reducible repeat (first|apply zg|apply zh|apply zf));exact HO108.out) hb);have BK109:=za (hbox);have GW109:=za ((by rw [hg];exact (zq (by repeat (first|(with_reducible first|exact HB.out|apply zj|apply zk|apply zi|refine zc ?_ GE101.out)|exact HB.out))):w.heap.size≤gb109));have GE109:=za ((by rw [hg];exact (zq (by repeat (first|(with_reducible first|exact HB.out|apply zj|apply zk|apply zi|refine zc ?_ GE101.out)|exact HB.out))):w.heap.size≤gb109));replace HB:=za (zu (by repeat (first|(with_reducible first|exact HB.out|apply zj|apply zk|apply zi|refine zc ?_ GE101.out)|exact HB.out)) hb);have NB101_109:=za ((by rw [hg];exact Nat.ne_of_lt (blk_lt (g:=gb101) (o:=.cells #[.int .i64 0,.int .i64 0,.slice none 0 0] 43 (0,0)) (by apply_rules only [BK101.out,zd,zb,ze])):gb101 ≠ gb109));have NB109_101:=za ((by rw [hg];exact Nat.ne_of_gt (blk_lt (g:=gb101) (o:=.cells #[.int .i64 0,.int .i64 0,.slice none 0 0] 43 (0,0)) (by apply_rules only [BK101.out,zd,zb,ze])):gb109 ≠ gb101));replace BK101:=za (zo (g:=gb101) (o:=.cells #[.int .i64 0,.int .i64 0,.slice none 0 0] 43 (0,0)) (by apply_rules only [BK101.out,zd,zb,ze]) hb);clear hb hbox hg;have hnb13:=NB109_101.out;have hnc13:=NB101_109.out;have hcz14_0:w12.cell? ⟨gb109,0,none⟩=some (.int .i64 0):=(zl BK109.out 0).trans rfl;have hcz14_1:w12.cell? ⟨gb109,1,none⟩=some (.int .i64 0):=(zl BK109.out 1).trans rfl;have hcz14_2:w12.cell? ⟨gb109,2,none⟩=some (.slice none 0 0):=(zl BK109.out 2).trans rfl;have hfz14_0:=zm BK109.out 0;have hfz14_1:=zm BK109.out 1;have hfz14_2:=zm BK109.out 2;obtain ⟨Ao15,co15,eo15⟩:=Kd.R_slice HO108.out;subst eo15)));(go_loopg [23] kj2 (fun kq v23 w'=>∃ (x23_2:Int) (x110002_2:List Int) (u110002:Value),v23=.int .i64 x23_2∧Aside0 (impl_FullBoard.l0 kq a1 (t106.length:Int) x23_2 t104 t105 x110002_2=some (r1,r2,r3,r4))∧Aside0 (kq≤kj2)∧Aside0 (Kd.R (Kd.int .i64) 3 w' w.heap.size (fun _=>True) u110002 x110002_2)∧Aside0 (w'.heap[gb101]?=some (.cells #[.int .i64 0,.int .i64 0,(.slice none 0 0)] 43 (0,0)))∧Aside0 (w'.heap[gb109]?=some (.cells #[.int .i64 t104,.int .i64 t105,u110002] 43 (0,0)))∧Aside0 (Below w.heap.size w w')));case atStart=>exact ⟨(0),(t106),(.slice Ao15 t106.length co15),(by first|rfl|(simp;done)|(simp [*];done)),H',⟨Nat.le_refl _⟩,⟨by (with_reducible repeat (first|apply zg|apply zh|apply zf));exact zp (zn (p:=⟨gb109,2,none⟩) (zn (p:=⟨gb109,1,none⟩) (zn (p:=⟨gb109,0,none⟩) (zw HO108.out BK109.out (by decide)) (fun _ hk=>hk.2) (.int .i64 t104)) (fun _ hk=>hk.2) (.int .i64 t105)) (fun _ hk=>hk.2) (.slice Ao15 t106.length co15)) (fun _ hk=>trivial)⟩,⟨by (with_reducible repeat (first|refine zd ?_ _|refine zb ?_|refine ze ?_ _));refine zs ?_ NB101_109.out _;(with_reducible repeat (first|refine zd ?_ _|refine zb ?_|refine ze ?_ _));refine zs ?_ NB101_109.out _;(with_reducible repeat (first|refine zd ?_ _|refine zb ?_|refine ze ?_ _));refine zs ?_ NB101_109.out _;(with_reducible repeat (first|refine zd ?_ _|refine zb ?_|refine ze ?_ _));exact BK101.out⟩,⟨by (with_reducible repeat (first|refine zd ?_ _|refine zb ?_|refine ze ?_ _));refine blk_put (cs:=#[.int .i64 t104,.int .i64 t105,.slice none 0 0]) ?_ 2 _ rfl;(with_reducible repeat (first|refine zd ?_ _|refine zb ?_|refine ze ?_ _));refine blk_put (cs:=#[.int .i64 t104,.int .i64 0,.slice none 0 0]) ?_ 1 _ rfl;(with_reducible repeat (first|refine zd ?_ _|refine zb ?_|refine ze ?_ _));refine blk_put (cs:=#[.int .i64 0,.int .i64 0,.slice none 0 0]) ?_ 0 _ rfl;(with_reducible repeat (first|refine zd ?_ _|refine zb ?_|refine ze ?_ _));exact BK109.out⟩,⟨by repeat (first|(with_reducible first|exact HB.out|apply zj|apply zk|apply zi|refine zc ?_ GE101.out|refine zc ?_ GE109.out)|exact HB.out)⟩⟩
    case round =>
     clear H';(try clear c1);(try clear p2);(try clear c6);(try clear c8);(try clear c10);(try clear c13);(try clear c14);(try clear hcz14_0);(try clear hcz14_1);(try clear hcz14_2);(try clear hcz9_0);(try clear hcz9_1);(try clear hcz9_2);(try clear hfz14_0);(try clear hfz14_1);(try clear hfz14_2);(try clear hfz9_0);(try clear hfz9_1);(try clear hfz9_2);(try clear p2);obtain ⟨x23_2,x110002_2,u110002,rfl,HA,HK2,HO_110002,BK101,BK109,HB⟩:=hrel
     cases gk with
    |zero=>exact absurd HA.out (by simp [impl_FullBoard.l0])
    |succ k2 =>
      have H:=HA.out;clear HA;simp only [impl_FullBoard.l0] at H;by_cases c16:x23_2 < (t106.length:Int)
      ·
       rw [if_pos c16] at H;have c16b0:decide (x23_2 < (t106.length:Int))=true:=decide_eq_true c16;clear c16;by_cases c17:0≤a1
       ·
        rw [if_pos c17] at H;have c17b0:=eq_true c17;have c17b1:decide (0≤a1)=true:=decide_eq_true c17;clear c17;obtain ⟨ji18,hji18⟩:∃ j_:Int,(shl .i64 1 a1)=j_:=⟨_,rfl⟩;(replace H:(if 0≤x23_2 then (if x23_2 < (x110002_2.length:Int) then (impl_FullBoard.l0 k2 a1 (t106.length:Int) (wrap64 (x23_2 + 1)) t104 t105 (x110002_2.set (x23_2:Int).toNat (wrap64 ((ji18) - 1)))) else (none)) else (none))=some (r1,r2,r3,r4):=by first|(rw [hji18] at H;exact H)|(simp only [hji18] at H ⊢;exact H));have hji18_:(IntKind.i64.wrap (1 * 2 ^ min a1.toNat 64))=ji18:=hji18;have hji18z:a1≤64→(IntKind.i64.wrap (1 * 2 ^ a1.toNat))=ji18:=shl_small hji18;(have hji18u:(IntKind.i64.wrap (2 ^ min a1.toNat 64))=ji18:=by have h_:=hji18_;rw [Int.one_mul] at h_;exact h_);(have hji18v:a1≤64→(IntKind.i64.wrap (2 ^ a1.toNat))=ji18:=fun hle_=>by have h_:=hji18z hle_;rw [Int.one_mul] at h_;exact h_);have hji18y:(wrap64 (1 * 2 ^ min a1.toNat 64))=ji18:=(i64_w _).symm.trans hji18_;(have hji18x:a1≤64→(wrap64 (1 * 2 ^ a1.toNat))=ji18:=fun h_=>(i64_w _).symm.trans (hji18z h_));by_cases c19:0≤x23_2
        ·
         rw [if_pos c19] at H;have c19b0:decide (0≤x23_2)=true:=decide_eq_true c19;clear c19;by_cases c20:x23_2 < (x110002_2.length:Int)
         ·
          rw [if_pos c20] at H;have c20b0:decide (x23_2 < (x110002_2.length:Int))=true:=decide_eq_true c20;clear c20;obtain ⟨y110,hy110⟩:∃ y_:List Int,y_=(x110002_2.set (x23_2:Int).toNat (wrap64 ((ji18) - 1))):=⟨_,rfl⟩;(replace H:(impl_FullBoard.l0 k2 a1 (t106.length:Int) (wrap64 (x23_2 + 1)) t104 t105 y110)=some (r1,r2,r3,r4):=by first|(rw [hy110];with_reducible exact H)|(have H2_:=(Option.bind_some _ _).symm.trans H;rw [hy110];with_reducible exact H2_)|(have H2_:=(Option.bind_some _ _).symm.trans H;with_reducible exact H2_)|with_reducible exact H|(rw [hy110];exact H)|exact H);have Ny110:=za hy110;clear hy110;have H':=za H;clear H;(try go_wp2);replace HO_110002:=za (zf HO_110002.out);replace BK101:=za (zb BK101.out);replace BK109:=za (zb BK109.out);replace HB:=za (zi HB.out);have p21:0≤(x23_2:Int):=of_decide_eq_true ‹_›;have q21:(x23_2:Int) < ((x110002_2.length:Int):Int):=of_decide_eq_true ‹_›;obtain ⟨go21,co21,eo21,gb21,gl21,cl21,HG21⟩:=Kd.R_form HO_110002.out (by omega);(first|cases eo21|(injection eo21 with ea_ en_ ec_;(first|subst ea_|(injection ea_ with ea_;subst ea_));subst ec_;clear en_));have GB21:=za gb21;have GG21:=za HG21;clear gb21 gl21 HG21;obtain ⟨hx21_0,hf21_0⟩:=Kd.R_celln 0 HO_110002.out (x23_2:Int) p21 q21;replace p21:=eq_true p21;replace q21:=eq_true q21;have HP23:=Kd.R_putn HO_110002.out (x23_2:Int) (wrap64 ((ji18) - 1));rw [← Ny110.out] at HP23;have HQ23:=za HP23;clear HP23;refine start_ (n:=8) (S:=fun w'=>w'.cell? ⟨gb109,0,none⟩=some (.int .i64 t104)∧w'.cell? ⟨gb109,1,none⟩=some (.int .i64 t105)∧w'.cell? ⟨gb109,2,none⟩=some (.slice (some ⟨go21,0,none⟩) x110002_2.length co21)) (ds:=[7]) #[false,false,false,false,false,false,false,false] (by kernel_rfl) rfl rfl ⟨(zl BK109.out 0).trans rfl,(zl BK109.out 1).trans rfl,(zl BK109.out 2).trans rfl⟩ (fun hHeld=>?_);refine with_tabW impl_FullBoard.tab7 impl_FullBoard.bits7 (fun HT_ HW_=>?_);generalize wr.drew=w22 at HO_110002 BK101 BK109 HB GG21 HQ23 hf21_0 hx21_0 hHeld ⊢;refine pure_ (i:=0) (N:=some 26) (v:=?_) (a':=?_) #[true,false,false,false,false,false,false,false] rfl rfl (any_of HT_.out (by kernel_rfl)) (fun _ _ _ h=>h) (Or.inl ⟨by rfl,?_⟩) ?_ ?_;rotate_left
          · intro w';go_simp;with_reducible rfl
          rotate_left
          · simp only [Act.put,z0_,z1_,z2_,i64_w,i32_w];rfl
          refine pure_ (i:=2) (N:=some 28) (v:=?_) (a':=?_) #[true,false,true,false,false,false,false,false] rfl rfl (any_of HT_.out (by kernel_rfl)) (fun _ _ _ h=>h) (Or.inl ⟨by rfl,?_⟩) ?_ ?_;rotate_left
          · intro w';go_simp;with_reducible rfl
          rotate_left
          · simp only [Act.put,z0_,z1_,z2_,i64_w,i32_w];rfl
          refine pure_ (i:=3) (N:=some 29) (v:=?_) (a':=?_) #[true,false,true,true,false,false,false,false] rfl rfl (any_of HT_.out (by kernel_rfl)) (fun _ _ _ h=>h) (Or.inl ⟨by rfl,?_⟩) ?_ ?_;rotate_left
          · intro w';go_simp;with_reducible rfl
          rotate_left
          · simp only [Act.put,z0_,z1_,z2_,i64_w,i32_w];rfl
          refine pure_ (i:=4) (N:=some 30) (v:=?_) (a':=?_) #[true,false,true,true,true,false,false,false] rfl rfl (any_of HT_.out (by kernel_rfl)) (fun _ _ _ h=>h) (Or.inl ⟨by rfl,?_⟩) ?_ ?_;rotate_left
          · intro w';go_simp;with_reducible rfl
          rotate_left
          · simp only [Act.put,z0_,z1_,z2_,i64_w,i32_w];rfl
          refine pure_ (i:=5) (N:=some 31) (v:=?_) (a':=?_) #[true,false,true,true,true,true,false,false] rfl rfl (any_of HT_.out (by kernel_rfl)) (fun _ _ _ h=>h) (Or.inl ⟨by rfl,?_⟩) ?_ ?_;rotate_left
          · intro w';go_simp;with_reducible rfl
          rotate_left
          · simp only [Act.put,z0_,z1_,z2_,i64_w,i32_w];rfl
          refine take_ (i:=1) (N:=some 27) (v:=?_) (a':=?_) #[true,true,true,true,true,true,false,false] rfl rfl (take_ofW HT_.out HW_.out (by kernel_rfl)) (fun _ _ _ h=>h) (Or.inl ⟨by rfl,?_⟩) hHeld ?_ ?_;rotate_left
          · rintro w' ⟨s0,s1,s2⟩;go_simp;with_reducible rfl
          rotate_left
          · simp only [Act.put,z0_,z1_,z2_,i64_w,i32_w];rfl
          refine pure_ (i:=6) (N:=some 32) (v:=?_) (a':=?_) #[true,true,true,true,true,true,true,false] rfl rfl (any_of HT_.out (by kernel_rfl)) (fun _ _ _ h=>h) (Or.inl ⟨by rfl,?_⟩) ?_ ?_;rotate_left
          · intro w';go_simp;with_reducible rfl
          rotate_left
          · simp only [Act.put,z0_,z1_,z2_,i64_w,i32_w];rfl
          refine last_ (i:=7) (N:=none) #[true,true,true,true,true,true,true,true] rfl rfl (one_of HT_.out (by kernel_rfl)) (by decide) (fun K hK=>?_);refine skip_ (w1:=?_) (by rfl) rfl ?_ ?_;rotate_left
          · go_simp;rfl
          refine hK.out _ _ ?_;clear hK K;refine done_ (done_of HT_.out (by kernel_rfl)) ?_;(try go_wp2);(go_roundg k2);(case measure=>have:=HJ2.out;have:=HK2.out;omega);case rel=>exact ⟨(wrap64 (x23_2 + 1)),(y110),(.slice (some ⟨go21,0,none⟩) x110002_2.length co21),(by first|rfl|(simp;done)|(simp [*];done)),H',⟨by have:=HJ2.out;have:=HK2.out;omega⟩,⟨by (with_reducible repeat (first|apply zg|apply zh|apply zf));exact HQ23.out⟩,⟨by (with_reducible repeat (first|refine zd ?_ _|refine zb ?_|refine ze ?_ _));refine zs ?_ (by have h_:=Kd.R_ne HO_110002.out BK101.out (by decide);intro e_;exact h_ (by rw [e_];rfl)) _;(with_reducible repeat (first|refine zd ?_ _|refine zb ?_|refine ze ?_ _));exact BK101.out⟩,⟨by (with_reducible repeat (first|refine zd ?_ _|refine zb ?_|refine ze ?_ _));refine zs ?_ (by have h_:=Kd.R_ne HO_110002.out BK109.out (by decide);intro e_;exact h_ (by rw [e_];rfl)) _;(with_reducible repeat (first|refine zd ?_ _|refine zb ?_|refine ze ?_ _));exact BK109.out⟩,⟨by repeat (first|(with_reducible first|exact HB.out|apply zj|apply zk|apply zi|refine zc ?_ GB21.out|refine zc ?_ GE101.out|refine zc ?_ GE109.out)|exact HB.out)⟩⟩
         · rw [if_neg c20] at H;exact absurd H (by simp)
        · rw [if_neg c19] at H;exact absurd H (by simp)
       · rw [if_neg c17] at H;exact absurd H (by simp)
      · rw [if_neg c16] at H;have c16b0:decide (x23_2 < (t106.length:Int))=false:=decide_eq_false c16;clear c16;simp only [Option.some.injEq,Prod.mk.injEq] at H;obtain ⟨rfl,rfl,rfl,rfl⟩:=H;have hnb24:=NB109_101.out;have hnc24:=NB101_109.out;have hcz25_0:wr.cell? ⟨gb109,0,none⟩=some (.int .i64 t104):=(zl BK109.out 0).trans rfl;have hcz25_1:wr.cell? ⟨gb109,1,none⟩=some (.int .i64 t105):=(zl BK109.out 1).trans rfl;have hcz25_2:wr.cell? ⟨gb109,2,none⟩=some (u110002):=(zl BK109.out 2).trans rfl;have hfz25_0:=zm BK109.out 0;have hfz25_1:=zm BK109.out 1;have hfz25_2:=zm BK109.out 2;have hcz26_0:wr.cell? ⟨gb101,0,none⟩=some (.int .i64 0):=(zl BK101.out 0).trans rfl;have hcz26_1:wr.cell? ⟨gb101,1,none⟩=some (.int .i64 0):=(zl BK101.out 1).trans rfl;have hcz26_2:wr.cell? ⟨gb101,2,none⟩=some (.slice none 0 0):=(zl BK101.out 2).trans rfl;have hfz26_0:=zm BK101.out 0;have hfz26_1:=zm BK101.out 1;have hfz26_2:=zm BK101.out 2;obtain ⟨Ao27,co27,eo27⟩:=Kd.R_slice HO_110002.out;subst eo27;(go_wp2);refine bodyPost_ret (results_ct rfl _ _ gb101 43 #[.int .i64 t104,.int .i64 t105,.slice Ao27 x110002_2.length co27] (0,0) _ rfl (by (with_reducible repeat (first|refine zd ?_ _|refine zb ?_|refine ze ?_ _));refine blk_put (cs:=#[.int .i64 t104,.int .i64 t105,.slice none 0 0]) ?_ 2 _ rfl;(with_reducible repeat (first|refine zd ?_ _|refine zb ?_|refine ze ?_ _));refine blk_put (cs:=#[.int .i64 t104,.int .i64 0,.slice none 0 0]) ?_ 1 _ rfl;(with_reducible repeat (first|refine zd ?_ _|refine zb ?_|refine ze ?_ _));refine blk_put (cs:=#[.int .i64 0,.int .i64 0,.slice none 0 0]) ?_ 0 _ rfl;(with_reducible repeat (first|refine zd ?_ _|refine zb ?_|refine ze ?_ _));exact BK101.out) Try.underlying43 rfl (by kernel_rfl)) rfl ?_;exact ⟨_,by first|rfl|simp [*,errW_none,errW_some] <;> rfl,by (with_reducible repeat (first|apply zg|apply zh|apply zf));exact zp (zn (p:=⟨gb101,2,none⟩) (zn (p:=⟨gb101,1,none⟩) (zn (p:=⟨gb101,0,none⟩) (zw HO_110002.out BK101.out (by decide)) (fun _ hk=>hk.2) (.int .i64 t104)) (fun _ hk=>hk.2) (.int .i64 t105)) (fun _ hk=>hk.2) (.slice Ao27 x110002_2.length co27)) (fun _ hk=>trivial),by repeat (first|(with_reducible first|exact HB.out|apply zj|apply zk|apply zi|refine zc ?_ GE101.out|refine zc ?_ GE109.out)|exact HB.out)⟩
end Go.Proofs.Ytiopnmgcajohfaa.Q
end
section
namespace Go.Proofs.Ytiopnmgcajohfaa.Walk
set_option linter.unusedVariables false
open Go.RowKit Go.Proofs.YtiopnmgcajohfaaW.PrintWords Go.Proofs.YtiopnmgcajohfaaW.PrintLast Go.Proofs.YtiopnmgcajohfaaW.PrintMore
open Go.Proofs.YtiopnmgcajohfaaL Go.Proofs.Ytiopnmgcajohfaa.LawK Go.Proofs.Ytiopnmgcajohfaa.BoardK Go.Proofs.Ytiopnmgcajohfaa.Q
def fullRows (n : Nat) : List Int := List.replicate n (2 ^ n - 1)
set_option maxRecDepth 20000 in
theorem fullBoard_f {n : Nat} (h1 : 1 ≤ n) (h6 : n ≤ 6) : ∃ k, impl_FullBoard.f k n n = some ((n : Int), (n : Int), fullRows n, true) := by
  have : ∀ x : Fin 6, impl_FullBoard.f 12 ((x.val + 1 : Nat) : Int) ((x.val + 1 : Nat) : Int) = some (((x.val + 1 : Nat) : Int), ((x.val + 1 : Nat) : Int), fullRows (x.val + 1), true) := by decide +kernel
  have := this ⟨n - 1, by omega⟩
  simp only [] at this
  rw [show n - 1 + 1 = n by omega] at this
  exact ⟨12, this⟩
def permsOf (n : Nat) : List (List Int) := (waysFrom (fullRows n) n n 0 0 []).filter (fun p => rooksN p == n)
end Go.Proofs.Ytiopnmgcajohfaa.Walk
end
section
namespace Go.Proofs.Ytiopnmgcajohfaa.WalkPerms
set_option linter.unusedVariables false
open Go.RowKit Go.Proofs.YtiopnmgcajohfaaW.PrintWords Go.Proofs.YtiopnmgcajohfaaW.PrintLast Go.Proofs.YtiopnmgcajohfaaW.PrintMore
open Go.Proofs.YtiopnmgcajohfaaL Go.Proofs.Ytiopnmgcajohfaa.LawK Go.Proofs.Ytiopnmgcajohfaa.BoardK Go.Proofs.Ytiopnmgcajohfaa.Walk Go.Proofs.Ytiopnmgcajohfaa.Q
theorem run_store_func {P:Program} {w:World} {a:Addr} {m:Mode} (f:Fn) (xs:Array Value) (ys:Array Value):(store a (.func f xs ys) m).run P w=stored P w a (.func f xs ys) m:=run_store P w a _ m rfl
attribute [local go_sem] run_store_func
section
variable (k : Blks) (hk : k.Apart) (Inv : List (List Int) → World → Prop) (hI : ∀ vis w w', Inv vis w → Still k.has w w' → Inv vis w') (R C : Nat) (RI CI : Int) (hRI : RI = R) (hCI : CI = C) (l : List Int) (A0 : Option Addr) (c0 cp : Nat) (hc0 : l.length ≤ c0) (cc1 cc2 : Value)
  (hL : ∀ vis w, Inv vis w → Kd.C (Kd.int .i64) w A0 l.length l)
  (hl : l.length = R) (hR : R ≤ 6) (hC : C ≤ 6) (hb : ∀ i (hi : i < l.length), 0 ≤ l[i] ∧ l[i] < 2 ^ C)
  (P : List (List Int) → List Int → Prop) (hdo : ∀ vis ps w, ps.length = R → P vis ps → WSt k Inv RI CI R cp l A0 c0 (.func (.func 140) #[] #[cc1, cc2]) vis ps w →
    Calls Try.prog 140 #[.slice (some ⟨k.a, 0, none⟩) R cp, cc1, cc2] w fun e w' => e = .returned (.bool true) ∧ WSt k Inv RI CI R cp l A0 c0 (.func (.func 140) #[] #[cc1, cc2]) (vis ++ [ps]) ps w')
include hk hI hRI hCI hc0 hL hl hR hC hb hdo
set_option maxHeartbeats 4000000 in
set_option maxRecDepth 100000 in
theorem row_calls:∀ (d r t:Nat) (rI tI:Int),rI=r→tI=t→r + d=R→t < 64→∀ vis ps w,ps.length=R→(∀ a q b,waysFrom l C d r t (ps.take r)=a ++ q :: b→P (vis ++ a) q)→WSt k Inv RI CI R cp l A0 c0 (.func (.func 140) #[] #[cc1,cc2]) vis ps w →
  Calls Try.prog 152 #[.int .i64 rI,.int .i64 tI,.pointer (some ⟨k.b,0,none⟩),.pointer (some ⟨k.d,0,none⟩),.pointer (some ⟨k.p,0,none⟩),.pointer (some ⟨k.g,0,none⟩),.pointer (some ⟨k.r,0,none⟩)] w fun e w'=>e=.returned (.tuple #[]) ∧
   ∃ ps',ps'.length=R∧ps'.take r=ps.take r∧WSt k Inv RI CI R cp l A0 c0 (.func (.func 140) #[] #[cc1,cc2]) (vis ++ waysFrom l C d r t (ps.take r)) ps' w'
|0,r,t,rI,tI,hr,ht,hrd,ht6,vis,ps,w,hps,hPP,hst=>by
  have hP0:P vis ps:=by have:=hPP [] ps [] (by rw [waysFrom,List.take_of_length_le (by omega)];rfl);rwa [List.append_nil] at this
  have CX:=Lib.hid (fun W (h:Aside0 (WSt k Inv RI CI R cp l A0 c0 (.func (.func 140) #[] #[cc1,cc2]) vis ps W))=>hdo vis ps W hps hP0 h.out)
  have MV:=Lib.hid (fun W (h:Aside0 (WSt k Inv RI CI R cp l A0 c0 (.func (.func 140) #[] #[cc1,cc2]) (vis ++ [ps]) ps W))=>h.out.setG hI hk)
  have e0:(rI == RI)=true:=beq_iff_eq.mpr (by omega)
  have e1:=za (show ps.take r=ps from List.take_of_length_le (by omega))
  have hz1:w.cell? ⟨k.b,0,none⟩=some (.int .i64 RI):=(zl hst.cB 0).trans rfl
  have hz2:w.cell? ⟨k.d,0,none⟩=some (.func (.func 140) #[] #[cc1,cc2]):=(zl hst.cD 0).trans rfl
  have hz3:w.cell? ⟨k.p,0,none⟩=some (.slice (some ⟨k.a,0,none⟩) R cp):=(zl hst.cP 0).trans rfl
  have HS:=za hst
  have HP:=za hps
  have hu24:=Try.underlying43
  clear hdo hst hps hr ht hrd ht6 hRI hCI hk hI hL hl hR hC hb hc0 hPP hP0
  go_enter Try.func152,Try.ntmps152
  go_wp2_with (first|(go_at_call 140;(refine (CX.out _ HS).mono ?_);rintro e w2 ⟨rfl,hs2⟩;have hz4:w2.cell? ⟨k.g,0,none⟩=some (.bool true):=(zl hs2.cG 0).trans rfl;have hf4:=zm hs2.cG 0;have HS2:=za hs2;clear hs2))
  first|go_end0|((try simp only [Exit.inBlock,Exit.then]);refine bodyPost_ret (results_none rfl _ _ _) rfl ?_)
  refine ⟨rfl,ps,HP.out,rfl,?_⟩
  rw [e1.out]
  exact MV.out _ HS2
|d + 1,r,t,rI,tI,hr,ht,hrd,ht6,vis,ps,w,hps,hPP,hst=>by
  have IH:=Lib.hid (fun (t':Nat) (tI':Int) (h2:tI'=(t':Int)) (h3:t' < 64) vis ps W (h4:ps.length=R) (h5:∀ a q b,waysFrom l C d (r + 1) t' (ps.take (r + 1))=a ++ q :: b→P (vis ++ a) q) (h:WSt k Inv RI CI R cp l A0 c0 (.func (.func 140) #[] #[cc1,cc2]) vis ps W)=>row_calls d (r + 1) t' (wrap64 (rI + 1)) tI' (by rw [hr,w64 (by omega) (by omega)];rfl) h2 (by omega) h3 vis ps W h4 h5 h)
  have MVB:=Lib.hid (fun vis ps W W' (h:WSt k Inv RI CI R cp l A0 c0 (.func (.func 140) #[] #[cc1,cc2]) vis ps W) (hb:Below W.heap.size W W')=>h.below hI hb)
  have MVA:=Lib.hid (fun vis ps W (h:WSt k Inv RI CI R cp l A0 c0 (.func (.func 140) #[] #[cc1,cc2]) vis ps W) (i c:Int)=>h.setA hI hk i c)
  have HL:=Lib.hid (fun vis ps W (h:WSt k Inv RI CI R cp l A0 c0 (.func (.func 140) #[] #[cc1,cc2]) vis ps W)=>hL vis W h.inv)
  have HASF:=Lib.hid (fun (j:Nat) (hj:j≤64)=>has_f RI CI (l:=l) (i:=r) (j:=j) (by omega) (hb r (by omega)).1 (by have:=(hb r (by omega)).2;have:=two_pow_six hC;omega) hj)
  have e0:(rI == RI)=false:=beq_eq_false_iff_ne.mpr (by omega)
  have z1:w.cell? ⟨k.b,0,none⟩=some (.int .i64 RI):=(zl hst.cB 0).trans rfl
  have HS:=za hst
  have HP:=za hps
  have HR:=za hr
  have HT:=za ht
  have HT6:=za ht6
  have HRD:=za hrd
  have HCI:=za hCI
  have HC0:=za hc0
  have HC6:=za hC
  have HR6:=za hR
  have hu24:=Try.underlying43
  obtain ⟨pre,hpre⟩:∃ pre,pre=ps.take r:=⟨_,rfl⟩
  rw [← hpre] at hPP ⊢
  have HPP:=za hPP
  have HPRE:=za hpre
  have plt:=eq_true (show 0≤rI by omega)
  have plt2:=eq_true (show rI < (R:Int) by omega)
  clear hdo hst hps hr ht hrd ht6 hRI hCI hk hI hL hl hR hC hb hc0 hpre hPP row_calls
  go_enter Try.func152,Try.ntmps152
  go_wp2
  go_loopg [9] (C + 1) (fun kq v9 w'=>∃ (x9:Int),v9=.int .i64 x9∧Aside0 (∃ (j:Nat) (ps':List Int),x9=-1 + j∧j + kq=C + 1∧ps'.length=R∧ps'.take r=pre∧WSt k Inv RI CI R cp l A0 c0 (.func (.func 140) #[] #[cc1,cc2]) (vis ++ (iota (-1) j).flatMap (colWays l r t pre (waysFrom l C d (r + 1)))) ps' w'))
  case atStart=>exact ⟨-1,rfl,⟨0,ps,by omega,by omega,HP.out,HPRE.out.symm,by simpa [iota] using HS.out⟩⟩
  case round =>
   clear z1
   obtain ⟨x9,rfl,HX⟩:=hrel
   obtain ⟨j,qs,hx,hj,hql,hqt,hs⟩:=HX.out
   clear HX
   have HX:=za hx
   have HQL:=za hql
   have HQT:=za hqt
   have HS2:=za hs
   have HJ:=za hj
   have z1:wr.cell? ⟨k.b,1,none⟩=some (.int .i64 CI):=(zl hs.cB 1).trans rfl
   have z2:wr.cell? ⟨k.g,0,none⟩=some (.bool true):=(zl hs.cG 0).trans rfl
   have z3:wr.cell? ⟨k.b,0,none⟩=some (.int .i64 RI):=(zl hs.cB 0).trans rfl
   have z4:wr.cell? ⟨k.b,2,none⟩=some (.slice A0 l.length c0):=(zl hs.cB 2).trans rfl
   clear hx hj hql hqt hs
   by_cases c1:x9 < CI
   ·
    have c1b:decide (x9 < CI)=true:=decide_eq_true c1
    cases gk with
   |zero=>exact absurd c1 (by have:=HX.out;have:=HJ.out;have:=HCI.out;omega)
   |succ k1 =>
     have EW:=za (show wrap64 (x9 + 1)=-1 + ((j + 1:Nat):Int) by have:=HX.out;have:=HJ.out;have:=HC6.out;rw [w64 (by omega) (by omega)];omega)
     have EJ:=za (show j + 1 + k1=C + 1 by have:=HJ.out;omega)
     have ES:=za (show (iota (-1) (j + 1)).flatMap (colWays l r t pre (waysFrom l C d (r + 1)))=(iota (-1) j).flatMap (colWays l r t pre (waysFrom l C d (r + 1))) ++ colWays l r t pre (waysFrom l C d (r + 1)) x9 by rw [iota_snoc,List.flatMap_append,HX.out];simp)
     have C1:=za c1
     clear c1
     by_cases c2:0≤x9
     ·
      have c2b:decide (0≤x9)=true:=decide_eq_true c2
      have c2e:=eq_true c2
      obtain ⟨xn,hxn⟩:∃ xn:Nat,x9=xn:=⟨x9.toNat,by omega⟩
      have HXN:=za hxn
      have HX6:=za (show xn < 6 by have:=C1.out;have:=HCI.out;have:=HC6.out;omega)
      have A1:=za (show impl_Board_has.f RI CI l rI x9=some (cell l r xn) by rw [HR.out,hxn];exact HASF.out xn (by have:=HX6.out;omega))
      obtain ⟨sh,hsh⟩:∃ s:Int,shr .i64 tI x9=s:=⟨_,rfl⟩
      have hsh1:(tI / 2 ^ min x9.toNat 64)=sh:=hsh
      have BT:Go.bits .and .i64 sh 1=if t.testBit xn then 1 else 0:=by rw [← hsh,HT.out,hxn];exact bit_and t xn (by have:=HT6.out;omega) (by have:=HX6.out;omega)
      clear c2 hxn
      by_cases c3:cell l r xn=true
      ·
       rw [c3] at A1
       by_cases c4:t.testBit xn=true
       ·
        have c4b:(Go.bits .and .i64 sh 1 == 1)=true:=by rw [BT,if_pos c4];rfl
        have NIL:=za (show colWays l r t pre (waysFrom l C d (r + 1)) x9=[] by have:=HXN.out;unfold colWays;rw [if_neg (by omega),if_neg (by rw [HXN.out];simp [c4])])
        clear c3 c4 BT hsh
        go_wp2_with (first|(go_at_call 136;(refine (impl_Board_has.calls RI CI _ _ l rI x9 true _ ?side1 ?side2 A1.out).mono ?_);(case side1=>exact HL.out _ _ _ HS2.out);(case side2=>exact HC0.out);rintro e w2 ⟨rfl,hb2⟩;have HS3:=za (MVB.out _ _ _ _ HS2.out hb2);clear hb2))
        go_roundg k1
        case measure=>omega
        case rel=>exact ⟨wrap64 (x9 + 1),(by first|rfl|(simp;done)),⟨j + 1,qs,EW.out,EJ.out,HQL.out,HQT.out,by rw [ES.out,NIL.out,List.append_nil];exact HS3.out⟩⟩
       ·
        have c4b:(Go.bits .and .i64 sh 1 == 1)=false:=by rw [BT,if_neg c4];rfl
        have c4f:t.testBit xn=false:=by simpa using c4
        have ONE:=za (show colWays l r t pre (waysFrom l C d (r + 1)) x9=waysFrom l C d (r + 1) (t ||| 2 ^ xn) (pre ++ [x9]) by have:=HXN.out;unfold colWays;rw [if_neg (by omega),HXN.out,Int.toNat_natCast,if_pos (by rw [c3,c4f];rfl)])
        obtain ⟨ji,hji⟩:∃ s:Int,shl .i64 1 x9=s:=⟨_,rfl⟩
        have hji_:(IntKind.i64.wrap (1 * 2 ^ min x9.toNat 64))=ji:=hji
        have hjiu:(IntKind.i64.wrap (2 ^ min x9.toNat 64))=ji:=by have h_:=hji_;rw [Int.one_mul] at h_;exact h_
        have p2x:=Nat.pow_le_pow_right (show 0 < 2 by decide) (show xn≤5 by have:=HX6.out;omega)
        have OR:=za (show Go.bits .or .i64 tI ji=((t ||| 2 ^ xn:Nat):Int) by rw [← hji,HT.out,HXN.out,shl_one xn (by have:=HX6.out;omega)];exact or_nat _ _ (by have:=HT6.out;omega) (by omega))
        have OR6:=za (show t ||| 2 ^ xn < 64 from Nat.or_lt_two_pow (n:=6) HT6.out (by omega))
        clear c3 c4 c4f BT hsh hji p2x
        have HRT:=za (show rI.toNat=r by rw [HR.out];rfl)
        have HPT:=za (show (qs.set rI.toNat x9).take (r + 1)=pre ++ [x9] by have hrl:r < qs.length:=(by have:=HQL.out;have:=HRD.out;omega);rw [HRT.out,List.take_add_one,List.take_set_of_le (Nat.le_refl _),HQT.out];simp [hrl])
        have NXT:=za (show ∀ a q b,waysFrom l C d (r + 1) (t ||| 2 ^ xn) ((qs.set rI.toNat x9).take (r + 1))=a ++ q :: b→P ((vis ++ (iota (-1) j).flatMap (colWays l r t pre (waysFrom l C d (r + 1)))) ++ a) q from fun a q b hq=>by rw [HPT.out,← ONE.out] at hq;rw [List.append_assoc];exact HPP.out _ q (b ++ (iota (x9 + 1) (C + 1 - j - 1)).flatMap (colWays l r t pre (waysFrom l C d (r + 1)))) (by rw [ways_cut l C d r t pre j (by have:=HX.out;have:=C1.out;have:=HCI.out;omega) HX.out,hq,List.append_assoc,List.append_assoc];rfl))
        go_wp2_with (first|(go_at_call 136;(refine (impl_Board_has.calls RI CI _ _ l rI x9 true _ ?side1 ?side2 A1.out).mono ?_);(case side1=>exact HL.out _ _ _ HS2.out);(case side2=>exact HC0.out);rintro e w2 ⟨rfl,hb2⟩;have HS3:=za (MVB.out _ _ _ _ HS2.out hb2);clear hb2;have z5:w2.cell? ⟨k.p,0,none⟩=some (.slice (some ⟨k.a,0,none⟩) R cp):=(zl HS3.out.cP 0).trans rfl;obtain ⟨z6,f6⟩:=Kd.R_celln 0 HS3.out.cA rI (of_eq_true plt) (of_eq_true plt2))|((with_reducible refine gate_store (t:=3) (p:=46) rfl ?_);refine store_event (t:=3) (p:=46) (v:=?vo) (w1:=(w2.setCell ⟨k.a,rI.toNat,none⟩ (.int .i64 x9))) ?hg ?ho ?hn ?hr ?_;(case ho=>rfl);(case hg=>rfl);(case hn=>rfl);(case hr=>first|(go_simp;done)|(go_simp;rfl));intro w4 hw;have HS4:=za (by rw [hw];exact MVA.out _ _ _ HS3.out rI x9:WSt k Inv RI CI R cp l A0 c0 (.func (.func 140) #[] #[cc1,cc2]) (vis ++ (iota (-1) j).flatMap (colWays l r t pre (waysFrom l C d (r + 1)))) (qs.set rI.toNat x9) w4);clear hw;have z7:w4.cell? ⟨k.r,0,none⟩=_:=(zl HS4.out.cR 0).trans rfl)|(go_at_call 152;(refine (IH.out (t ||| 2 ^ xn) _ OR.out OR6.out _ (qs.set rI.toNat x9) _ (by rw [List.length_set];exact HQL.out) NXT.out HS4.out).mono ?_);rintro e w5 ⟨rfl,hex⟩;have HE:=za hex;clear hex))
        go_roundg k1
        case measure=>omega
        case rel =>
         obtain ⟨qs2,hl2,ht2,hs5⟩:=HE.out
         have hrt:=HRT.out
         have hrl:r < qs.length:=by have:=HQL.out;have:=HRD.out;omega
         have hpt:=HPT.out
         refine ⟨wrap64 (x9 + 1),(by first|rfl|(simp;done)),⟨j + 1,qs2,EW.out,EJ.out,hl2,?_,?_⟩⟩
         ·
          have h3:=congrArg (List.take r) ht2
          rw [List.take_take,List.take_take,Nat.min_eq_left (by omega),hrt,List.take_set_of_le (Nat.le_refl _),HQT.out] at h3
          exact h3
         ·
          rw [hpt,List.append_assoc] at hs5
          rw [ES.out,ONE.out]
          exact hs5
      ·
       have c3f:cell l r xn=false:=by simpa using c3
       rw [c3f] at A1
       have NIL:=za (show colWays l r t pre (waysFrom l C d (r + 1)) x9=[] by have:=HXN.out;unfold colWays;rw [if_neg (by omega),if_neg (by rw [HXN.out];simp [c3f])])
       clear c3 c3f BT hsh
       go_wp2_with (first|(go_at_call 136;(refine (impl_Board_has.calls RI CI _ _ l rI x9 false _ ?side1 ?side2 A1.out).mono ?_);(case side1=>exact HL.out _ _ _ HS2.out);(case side2=>exact HC0.out);rintro e w2 ⟨rfl,hb2⟩;have HS3:=za (MVB.out _ _ _ _ HS2.out hb2);clear hb2))
       go_roundg k1
       case measure=>omega
       case rel=>exact ⟨wrap64 (x9 + 1),(by first|rfl|(simp;done)),⟨j + 1,qs,EW.out,EJ.out,HQL.out,HQT.out,by rw [ES.out,NIL.out,List.append_nil];exact HS3.out⟩⟩
     ·
      have c2b:decide (0≤x9)=false:=decide_eq_false c2
      have ONE:=za (show colWays l r t pre (waysFrom l C d (r + 1)) x9=waysFrom l C d (r + 1) t (pre ++ [x9]) by unfold colWays;rw [if_pos (by omega)])
      clear c2
      have z5:wr.cell? ⟨k.p,0,none⟩=some (.slice (some ⟨k.a,0,none⟩) R cp):=(zl HS2.out.cP 0).trans rfl
      obtain ⟨z6,f6⟩:=Kd.R_celln 0 HS2.out.cA rI (of_eq_true plt) (of_eq_true plt2)
      have HRT:=za (show rI.toNat=r by rw [HR.out];rfl)
      have HPT:=za (show (qs.set rI.toNat x9).take (r + 1)=pre ++ [x9] by have hrl:r < qs.length:=(by have:=HQL.out;have:=HRD.out;omega);rw [HRT.out,List.take_add_one,List.take_set_of_le (Nat.le_refl _),HQT.out];simp [hrl])
      have NXT:=za (show ∀ a q b,waysFrom l C d (r + 1) t ((qs.set rI.toNat x9).take (r + 1))=a ++ q :: b→P ((vis ++ (iota (-1) j).flatMap (colWays l r t pre (waysFrom l C d (r + 1)))) ++ a) q from fun a q b hq=>by rw [HPT.out,← ONE.out] at hq;rw [List.append_assoc];exact HPP.out _ q (b ++ (iota (x9 + 1) (C + 1 - j - 1)).flatMap (colWays l r t pre (waysFrom l C d (r + 1)))) (by rw [ways_cut l C d r t pre j (by have:=HX.out;have:=C1.out;have:=HCI.out;omega) HX.out,hq,List.append_assoc,List.append_assoc];rfl))
      go_wp2_with (first|((with_reducible refine gate_store (t:=3) (p:=46) rfl ?_);refine store_event (t:=3) (p:=46) (v:=?vo) (w1:=(wr.setCell ⟨k.a,rI.toNat,none⟩ (.int .i64 x9))) ?hg ?ho ?hn ?hr ?_;(case ho=>rfl);(case hg=>rfl);(case hn=>rfl);(case hr=>first|(go_simp;done)|(go_simp;rfl));intro w4 hw;have HS4:=za (by rw [hw];exact MVA.out _ _ _ HS2.out rI x9:WSt k Inv RI CI R cp l A0 c0 (.func (.func 140) #[] #[cc1,cc2]) (vis ++ (iota (-1) j).flatMap (colWays l r t pre (waysFrom l C d (r + 1)))) (qs.set rI.toNat x9) w4);clear hw;have z7:w4.cell? ⟨k.r,0,none⟩=_:=(zl HS4.out.cR 0).trans rfl)|(go_at_call 152;(refine (IH.out t _ HT.out HT6.out _ (qs.set rI.toNat x9) _ (by rw [List.length_set];exact HQL.out) NXT.out HS4.out).mono ?_);rintro e w5 ⟨rfl,hex⟩;have HE:=za hex;clear hex))
      go_roundg k1
      case measure=>omega
      case rel =>
       obtain ⟨qs2,hl2,ht2,hs5⟩:=HE.out
       have hrt:=HRT.out
       have hrl:r < qs.length:=by have:=HQL.out;have:=HRD.out;omega
       have hpt:=HPT.out
       refine ⟨wrap64 (x9 + 1),(by first|rfl|(simp;done)),⟨j + 1,qs2,EW.out,EJ.out,hl2,?_,?_⟩⟩
       ·
        have h3:=congrArg (List.take r) ht2
        rw [List.take_take,List.take_take,Nat.min_eq_left (by omega),hrt,List.take_set_of_le (Nat.le_refl _),HQT.out] at h3
        exact h3
       ·
        rw [hpt,List.append_assoc] at hs5
        rw [ES.out,ONE.out]
        exact hs5
   ·
    have c1b:decide (x9 < CI)=false:=decide_eq_false c1
    have FIN:=za (show j=C + 1 by have:=HX.out;have:=HJ.out;have:=HCI.out;omega)
    clear c1
    go_wp2
    first|go_end0|((try simp only [Exit.inBlock,Exit.then]);refine bodyPost_ret (results_none rfl _ _ _) rfl ?_)
    exact ⟨rfl,qs,HQL.out,HQT.out,by have:=HS2.out;rw [FIN.out] at this;exact this⟩
end
section
variable (Inv : (Nat → Prop) → List (List Int) → World → Prop) (hI : ∀ S vis w w', Inv S vis w → Still S w w' → Inv S vis w') (R C : Nat) (RI CI : Int) (hRI : RI = R) (hCI : CI = C) (l : List Int) (A0 : Option Addr) (c0 : Nat) (hc0 : l.length ≤ c0) (cc1 cc2 : Value)
  (hL : ∀ S vis w, Inv S vis w → Kd.C (Kd.int .i64) w A0 l.length l)
  (hl : l.length = R) (h1R : 1 ≤ R) (hR : R ≤ 6) (hC : C ≤ 6) (hb : ∀ i (hi : i < l.length), 0 ≤ l[i] ∧ l[i] < 2 ^ C) (w0 : World)
  (h0 : ∀ S w, (∀ i, S i → w0.heap.size ≤ i) → Below w0.heap.size w0 w → Inv S [] w)
  (hdo : ∀ S vis ps w a cp, (∀ i, S i → w0.heap.size ≤ i) → (∀ i, S i → i < w.heap.size) → ps.length = R → (∃ b, waysFrom l C R 0 0 [] = vis ++ ps :: b) → S a → Kd.C (Kd.int .i64) w (some ⟨a, 0, none⟩) R ps → R ≤ cp → Inv S vis w →
    Calls Try.prog 140 #[.slice (some ⟨a, 0, none⟩) R cp, cc1, cc2] w fun e w' => e = .returned (.bool true) ∧ Inv S (vis ++ [ps]) w' ∧ (∀ i, S i → i < w.heap.size → w'.heap[i]? = w.heap[i]?))
include hI hRI hCI hc0 hL hl h1R hR hC hb h0 hdo
set_option maxHeartbeats 4000000 in
set_option maxRecDepth 100000 in
theorem walk_calls:Calls Try.prog 139 #[.agg #[.int .i64 RI,.int .i64 CI,.slice A0 l.length c0],.func (.func 140) #[] #[cc1,cc2]] w0 fun e w'=>e=.returned (.tuple #[])∧∃ S,(∀ i,S i→w0.heap.size≤i)∧Inv S (waysFrom l C R 0 0 []) w':=by
 have KEY:∀ (k:Blks) (cp:Nat) W,k.Apart→(∀ i,k.has i→w0.heap.size≤i)→R≤cp→WSt k (Inv k.has) RI CI R cp l A0 c0 (.func (.func 140) #[] #[cc1,cc2]) [] (List.replicate R 0) W →
   Calls Try.prog 152 #[.int .i64 0,.int .i64 0,.pointer (some ⟨k.b,0,none⟩),.pointer (some ⟨k.d,0,none⟩),.pointer (some ⟨k.p,0,none⟩),.pointer (some ⟨k.g,0,none⟩),.pointer (some ⟨k.r,0,none⟩)] W fun e w'=>e=.returned (.tuple #[])∧∃ S,(∀ i,S i→w0.heap.size≤i)∧Inv S (waysFrom l C R 0 0 []) w':=by
  intro k cp W hk hS hcp hst
  have:=row_calls k hk (Inv k.has) (hI k.has) R C RI CI hRI hCI l A0 c0 cp hc0 cc1 cc2 (hL k.has) hl hR hC hb (fun vis q=>∃ b,waysFrom l C R 0 0 []=vis ++ q :: b) (fun vis ps w hps hmem hs=>by
   obtain ⟨_,_,hC'⟩:=zv hs.cA
   rw [hps] at hC'
   have hlt:k.a < w.heap.size:=by obtain ⟨cells,hc⟩:=Kd.R_typed hs.cA k.a rfl;exact blk_lt hc
   have hSlt:∀ i,k.has i→i < w.heap.size:=by
    rintro i (rfl|rfl|rfl|rfl|rfl|rfl)
    ·
     exact blk_lt hs.cB
    ·
     exact blk_lt hs.cD
    ·
     exact hlt
    ·
     exact blk_lt hs.cP
    ·
     exact blk_lt hs.cG
    ·
     exact blk_lt hs.cR
   refine (hdo k.has vis ps w k.a cp hS hSlt hps hmem (.inr (.inr (.inl rfl))) hC' hcp hs.inv).mono ?_
   rintro e w' ⟨rfl,hi,hkeep⟩
   refine ⟨rfl,(hkeep _ (.inl rfl) (blk_lt hs.cB)).trans hs.cB,(hkeep _ (.inr (.inl rfl)) (blk_lt hs.cD)).trans hs.cD,Kd.R_step hs.cA (fun i hi _=>by subst hi;exact hkeep _ (.inr (.inr (.inl rfl))) hlt),(hkeep _ (.inr (.inr (.inr (.inl rfl)))) (blk_lt hs.cP)).trans hs.cP,(hkeep _ (.inr (.inr (.inr (.inr (.inl rfl))))) (blk_lt hs.cG)).trans hs.cG,(hkeep _ (.inr (.inr (.inr (.inr (.inr rfl))))) (blk_lt hs.cR)).trans hs.cR,hi⟩)
   R 0 0 0 0 rfl rfl (by omega) (by omega) [] (List.replicate R 0) W (by simp) (fun a q b hq=>⟨b,by simpa using hq⟩) hst
  refine this.mono ?_
  rintro e w' ⟨rfl,ps',_,_,hw⟩
  exact ⟨rfl,k.has,hS,by simpa using hw.inv⟩
 have KX:=Lib.hid KEY;have H0:=Lib.hid h0;have hu24:=Try.underlying43;have p1:=za (show 0≤RI by omega);have p2:=za (show RI.toNat * 8≤281474976710656 by omega);have p3:=za (show RI.toNat=R by omega);have p4:=za h1R;clear KEY h0 hdo hb hC hR hl hL hc0 hCI hRI hI h1R;go_enter Try.func139,Try.ntmps139
 go_wp2_with (first
 |((with_reducible refine gate_dst (N:=2) rfl ?_);refine box_event ?hg (N:=2) ?hd (cs:=#[.int .i64 RI,.int .i64 CI,.slice A0 l.length c0]) (t:=43) ?hr ?_;(case hd=>rfl);(case hg=>rfl);(case hr=>first|(go_simp;done)|(go_simp;rfl));intro gb hg w1 hbox hb;have G1:=za hg;have K1:=za hbox;have B1:=za hb;clear hg hbox hb;have z1:w1.cell? ⟨gb,0,none⟩=some (.int .i64 RI):=(zl K1.out 0).trans rfl)
 |((with_reducible refine gate_dst (N:=3) rfl ?_);refine box_event ?hg (N:=3) ?hd (cs:=#[.func (.func 140) #[] #[cc1,cc2]]) (t:=37) ?hr ?_;(case hd=>rfl);(case hg=>rfl);(case hr=>first|(go_simp;done)|(go_simp;rfl));intro gd hg w2 hbox hb;have G2:=za hg;have K2:=za hbox;have B2:=za hb;clear hg hbox hb;have z2:w2.cell? ⟨gb,0,none⟩=some (.int .i64 RI):=(zl (zo K1.out B2.out) 0).trans rfl)
 |((with_reducible refine gate_dst (N:=9) rfl ?_);refine Kd.R_make (Kd.int .i64) (w0:=w2) w2.heap.size 3 rfl (N:=9) rfl 28 _ _ rfl RI rfl rfl Try.underlying28 (.int .i64 0) 8 info3 rfl (by decide) (by omega) 0 (ok:=fun _=>True) (okp:=fun _=>True) rfl (fun _ hk=>hk) trivial p1.out p2.out (Below.refl _ _) (Nat.le_refl _) ?_;intro v3 w3 ho3 hb hg_ hnew_;clear hg_ hnew_;rw [p3.out] at ho3;obtain ⟨ga,cp,hv3,hga,hga2,cells3,hc3⟩:=Kd.R_form ho3 (by rw [List.length_replicate];exact p4.out);rw [List.length_replicate] at hv3;subst hv3;have G3:=za (And.intro hga hga2);have K3:=za hc3;clear hga hga2 hc3;have B3:=za hb;have O3:=za ho3;clear hb ho3)
 |((with_reducible refine gate_dst (N:=4) rfl ?_);refine box_event ?hg (N:=4) ?hd (cs:=#[.slice none 0 0]) (t:=28) ?hr ?_;(case hd=>rfl);(case hg=>rfl);(case hr=>first|(go_simp;done)|(go_simp;rfl));intro gp hg w4 hbox hb;have G4:=za hg;have K4:=za hbox;have B4:=za hb;clear hg hbox hb)
 |((with_reducible refine gate_dst (N:=5) rfl ?_);refine box_event ?hg (N:=5) ?hd (cs:=#[.bool false]) (t:=4) ?hr ?_;(case hd=>rfl);(case hg=>rfl);(case hr=>first|(go_simp;done)|(go_simp;rfl));intro gg hg w5 hbox hb;have G5:=za hg;have K5:=za hbox;have B5:=za hb;clear hg hbox hb;have y1:w5.cell? ⟨gp,0,none⟩=some (.slice none 0 0):=(zl (zo K4.out B5.out) 0).trans rfl;have f1:w5.frozen? ⟨gp,0,none⟩=false:=zm (zo K4.out B5.out) 0)
 |((with_reducible refine gate_store (t:=28) (p:=4) rfl ?_);refine store_event (t:=28) (p:=4) (v:=?vo) (w1:=(w5.setCell ⟨gp,0,none⟩ (.slice (some ⟨ga,0,none⟩) R cp))) ?hg ?ho ?hn ?hr ?_;(case ho=>rfl);(case hg=>rfl);(case hn=>rfl);(case hr=>first|(go_simp;done)|(go_simp;rfl));intro w6 hw;have E6:=za hw;clear hw;have N65:=za (show gg ≠ gp by rw [G5.out];exact Nat.ne_of_gt (blk_lt K4.out));have K56:=za (show w6.heap[gg]?=some (.cells #[.bool false] 4 (0,0)) by rw [E6.out];exact zs K5.out N65.out _);have y2:w6.cell? ⟨gg,0,none⟩=some (.bool false):=(zl K56.out 0).trans rfl;have f2:w6.frozen? ⟨gg,0,none⟩=false:=zm K56.out 0)
 |((with_reducible refine gate_dst (N:=6) rfl ?_);refine box_event ?hg (N:=6) ?hd (cs:=#[.nilFunc]) (t:=106) ?hr ?_;(case hd=>rfl);(case hg=>rfl);(case hr=>first|(go_simp;done)|(go_simp;rfl));intro gr hg w8 hbox hb;have G8:=za hg;have K8:=za hbox;have B8:=za hb;clear hg hbox hb;have y3:w8.cell? ⟨gr,0,none⟩=some .nilFunc:=(zl K8.out 0).trans rfl;have f3:w8.frozen? ⟨gr,0,none⟩=false:=zm K8.out 0)
 |(go_at_call 152;(refine (KX.out ⟨gb,gd,ga,gp,gg,gr⟩ cp _ ?sa ?ss ?sc ?sw).mono ?_);(case sa=>(have o1:=blk_lt K1.out;have o2:=G2.out;have o3:=blk_lt K2.out;have o4:=G3.out;have o5:=G4.out;have o6:=blk_lt K4.out;have o7:=G5.out;have o8:=blk_lt K5.out;have o9:w6.heap.size=w5.heap.size:=(by rw [E6.out];simp [World.setCell]);have o10:(w6.setCell ⟨gg,0,none⟩ (.bool true)).heap.size=w6.heap.size:=(by simp [World.setCell]);have o11:=G8.out;have o12:=G1.out;constructor <;> (try simp only []) <;> omega));(case ss=>(have o1:=blk_lt K1.out;have o2:=G2.out;have o3:=blk_lt K2.out;have o4:=G3.out;have o5:=G4.out;have o6:=blk_lt K4.out;have o7:=G5.out;have o8:=blk_lt K5.out;have o9:w6.heap.size=w5.heap.size:=(by rw [E6.out];simp [World.setCell]);have o10:(w6.setCell ⟨gg,0,none⟩ (.bool true)).heap.size=w6.heap.size:=(by simp [World.setCell]);have o11:=G8.out;have o12:=G1.out;rintro i (rfl|rfl|rfl|rfl|rfl|rfl) <;> (try simp only []) <;> omega));(case sc=>exact (zv O3.out).2.1);(case sw=>(have o1:=blk_lt K1.out;have o2:=G2.out;have o3:=blk_lt K2.out;have o4:=G3.out;have o5:=G4.out;have o6:=blk_lt K4.out;have o7:=G5.out;have o8:=blk_lt K5.out;have o9:w6.heap.size=w5.heap.size:=(by rw [E6.out];simp [World.setCell]);have o10:(w6.setCell ⟨gg,0,none⟩ (.bool true)).heap.size=w6.heap.size:=(by simp [World.setCell]);have o11:=G8.out;have o12:=G1.out;have q1:=zo (zo (zo (zo K1.out B2.out) B3.out) B4.out) B5.out;have q2:=zo (zo (zo K2.out B3.out) B4.out) B5.out;have q3:=zr (zr (zp (Kd.R_lower (Kd.R_tight rfl O3.out) (Nat.zero_le _)) (fun i hi=>(by simpa [Value.ownBlock] using hi:i=ga))) B4.out) B5.out;have q4:=zo K4.out B5.out;have e1:gb ≠ gp:=(by omega);have e2:gd ≠ gp:=(by omega);have e3:ga ≠ gp:=(by omega);have e4:gb ≠ gg:=(by omega);have e5:gd ≠ gg:=(by omega);have e6:ga ≠ gg:=(by omega);have e7:gp ≠ gg:=(by omega);have e8:gb ≠ gr:=(by omega);have e9:gd ≠ gr:=(by omega);have e10:ga ≠ gr:=(by omega);have e11:gp ≠ gr:=(by omega);have e12:gg ≠ gr:=(by omega);have b5:Below w0.heap.size w0 w5:=(((B1.out.trans (B2.out.mono (by omega))).trans (B3.out.mono (by omega))).trans (B4.out.mono (by omega))).trans (B5.out.mono (by omega));have b7:Below w0.heap.size w0 (w6.setCell ⟨gg,0,none⟩ (.bool true)):=(by refine Below.setCell ?_ (by (try simp only []);omega) _;rw [E6.out];exact Below.setCell b5 (by (try simp only []);omega) _);have b9:Below w0.heap.size w0 (w8.setCell ⟨gr,0,none⟩ (.func (.func 152) #[] #[.pointer (some ⟨gb,0,none⟩),.pointer (some ⟨gd,0,none⟩),.pointer (some ⟨gp,0,none⟩),.pointer (some ⟨gg,0,none⟩),.pointer (some ⟨gr,0,none⟩)])):=(by exact Below.setCell (b7.trans (B8.out.mono (by omega))) (by (try simp only []);omega) _);exact ⟨(by refine zs (zo ?_ B8.out) e8 _;rw [E6.out];exact zs (zs q1 e1 _) e4 _),(by refine zs (zo ?_ B8.out) e9 _;rw [E6.out];exact zs (zs q2 e2 _) e5 _),(by refine zn (zr ?_ B8.out) (fun i hi=>(by rw [hi];exact e10)) _;rw [E6.out];exact zn (zn q3 (fun i hi=>(by rw [hi];exact e3)) _) (fun i hi=>(by rw [hi];exact e6)) _),(by refine zs (zo ?_ B8.out) e11 _;rw [E6.out];exact zs (blk_put q4 0 _ rfl) e7 _),(by refine zs (zo ?_ B8.out) e12 _;rw [E6.out];exact blk_put (zs K5.out e7.symm _) 0 _ rfl),(by exact blk_put K8.out 0 _ rfl),H0.out _ _ (by rintro i (rfl|rfl|rfl|rfl|rfl|rfl) <;> (try simp only []) <;> omega) b9⟩));rintro e w10 ⟨rfl,hfin⟩))
 (first|go_end0|((try simp only [Exit.inBlock,Exit.then]);refine bodyPost_ret (results_none rfl _ _ _) rfl ?_));exact ⟨rfl,hfin⟩
end
end Go.Proofs.Ytiopnmgcajohfaa.WalkPerms
end
