/- Texts of this claim put together (1): words, what the functions compute, and plain facts. No conditions. -/
import Derived.Test.YtpjjeeabpaojnaaGreatRows
import Derived.JoinedOf
import Derived.KernelRfl
section
namespace Go.Proofs.YtpjjeeabpaojnaaGreat.Facts
theorem words_word (v:List Char) (r:List Char) (h:v.all (fun c=>!(c == Char.ofNat 32))=true):wordsSigns (v ++ Char.ofNat 32 :: r)=v :: wordsSigns r:=by
 induction v with
|nil=>rfl
|cons c v ih =>
  simp only [List.all_cons,Bool.and_eq_true,Bool.not_eq_true',beq_eq_false_iff_ne,ne_eq] at h
  have e:=ih h.2
  rw [List.cons_append,wordsSigns]
  ·
   rw [e]
  ·
   intro hc;exact h.1 (by rw [hc])
def tail_:List Char:=[Char.ofNat 97,Char.ofNat 116,Char.ofNat 32,Char.ofNat 108,Char.ofNat 111,Char.ofNat 111,Char.ofNat 112,Char.ofNat 46,Char.ofNat 101,Char.ofNat 120,Char.ofNat 97,Char.ofNat 109,Char.ofNat 112,Char.ofNat 108,Char.ofNat 101,Char.ofNat 47,Char.ofNat 103,Char.ofNat 48,Char.ofNat 49,Char.ofNat 49,Char.ofNat 50,Char.ofNat 53,Char.ofNat 47,Char.ofNat 108,Char.ofNat 97,Char.ofNat 119,Char.ofNat 115,Char.ofNat 46,Char.ofNat 70,Char.ofNat 110,Char.ofNat 76,Char.ofNat 97,Char.ofNat 114,Char.ofNat 103,Char.ofNat 101,Char.ofNat 115,Char.ofNat 116,Char.ofNat 72,Char.ofNat 97,Char.ofNat 118,Char.ofNat 101,Char.ofNat 67,Char.ofNat 111,Char.ofNat 118,Char.ofNat 101,Char.ofNat 114,Char.ofNat 115]
set_option maxRecDepth 100000 in
theorem initOrder_ : Tryz.prog.initOrder = "harness c2a469dd7c5448ca7a96d129ea50d999f977d4670c65c0064e4118276306cd96 cut at loop.example/g01125/laws.FnLargestHaveCovers" := by kernel_rfl
set_option maxRecDepth 100000 in
theorem initList_:Tryz.prog.initOrder.toList=[Char.ofNat 104,Char.ofNat 97,Char.ofNat 114,Char.ofNat 110,Char.ofNat 101,Char.ofNat 115,Char.ofNat 115] ++ Char.ofNat 32 :: ([Char.ofNat 99,Char.ofNat 50,Char.ofNat 97,Char.ofNat 52,Char.ofNat 54,Char.ofNat 57,Char.ofNat 100,Char.ofNat 100,Char.ofNat 55,Char.ofNat 99,Char.ofNat 53,Char.ofNat 52,Char.ofNat 52,Char.ofNat 56,Char.ofNat 99,Char.ofNat 97,Char.ofNat 55,Char.ofNat 97,Char.ofNat 57,Char.ofNat 54,Char.ofNat 100,Char.ofNat 49,Char.ofNat 50,Char.ofNat 57,Char.ofNat 101,Char.ofNat 97,Char.ofNat 53,Char.ofNat 48,Char.ofNat 100,Char.ofNat 57,Char.ofNat 57,Char.ofNat 57,Char.ofNat 102,Char.ofNat 57,Char.ofNat 55,Char.ofNat 55,Char.ofNat 100,Char.ofNat 52,Char.ofNat 54,Char.ofNat 55,Char.ofNat 48,Char.ofNat 99,Char.ofNat 54,Char.ofNat 53,Char.ofNat 99,Char.ofNat 48,Char.ofNat 48,Char.ofNat 54,Char.ofNat 52,Char.ofNat 101,Char.ofNat 52,Char.ofNat 49,Char.ofNat 49,Char.ofNat 56,Char.ofNat 50,Char.ofNat 55,Char.ofNat 54,Char.ofNat 51,Char.ofNat 48,Char.ofNat 54,Char.ofNat 99,Char.ofNat 100,Char.ofNat 57,Char.ofNat 54] ++ Char.ofNat 32 :: ([Char.ofNat 99,Char.ofNat 117,Char.ofNat 116] ++ Char.ofNat 32 :: tail_)):=by
 rw [initOrder_]
 exact String.toList_ofList (l:=[Char.ofNat 104,Char.ofNat 97,Char.ofNat 114,Char.ofNat 110,Char.ofNat 101,Char.ofNat 115,Char.ofNat 115] ++ Char.ofNat 32 :: ([Char.ofNat 99,Char.ofNat 50,Char.ofNat 97,Char.ofNat 52,Char.ofNat 54,Char.ofNat 57,Char.ofNat 100,Char.ofNat 100,Char.ofNat 55,Char.ofNat 99,Char.ofNat 53,Char.ofNat 52,Char.ofNat 52,Char.ofNat 56,Char.ofNat 99,Char.ofNat 97,Char.ofNat 55,Char.ofNat 97,Char.ofNat 57,Char.ofNat 54,Char.ofNat 100,Char.ofNat 49,Char.ofNat 50,Char.ofNat 57,Char.ofNat 101,Char.ofNat 97,Char.ofNat 53,Char.ofNat 48,Char.ofNat 100,Char.ofNat 57,Char.ofNat 57,Char.ofNat 57,Char.ofNat 102,Char.ofNat 57,Char.ofNat 55,Char.ofNat 55,Char.ofNat 100,Char.ofNat 52,Char.ofNat 54,Char.ofNat 55,Char.ofNat 48,Char.ofNat 99,Char.ofNat 54,Char.ofNat 53,Char.ofNat 99,Char.ofNat 48,Char.ofNat 48,Char.ofNat 54,Char.ofNat 52,Char.ofNat 101,Char.ofNat 52,Char.ofNat 49,Char.ofNat 49,Char.ofNat 56,Char.ofNat 50,Char.ofNat 55,Char.ofNat 54,Char.ofNat 51,Char.ofNat 48,Char.ofNat 54,Char.ofNat 99,Char.ofNat 100,Char.ofNat 57,Char.ofNat 54] ++ Char.ofNat 32 :: ([Char.ofNat 99,Char.ofNat 117,Char.ofNat 116] ++ Char.ofNat 32 :: tail_)))
theorem strip_ (r:List (List Char)):behindMainWord ([Char.ofNat 104,Char.ofNat 97,Char.ofNat 114,Char.ofNat 110,Char.ofNat 101,Char.ofNat 115,Char.ofNat 115] :: [Char.ofNat 99,Char.ofNat 50,Char.ofNat 97,Char.ofNat 52,Char.ofNat 54,Char.ofNat 57,Char.ofNat 100,Char.ofNat 100,Char.ofNat 55,Char.ofNat 99,Char.ofNat 53,Char.ofNat 52,Char.ofNat 52,Char.ofNat 56,Char.ofNat 99,Char.ofNat 97,Char.ofNat 55,Char.ofNat 97,Char.ofNat 57,Char.ofNat 54,Char.ofNat 100,Char.ofNat 49,Char.ofNat 50,Char.ofNat 57,Char.ofNat 101,Char.ofNat 97,Char.ofNat 53,Char.ofNat 48,Char.ofNat 100,Char.ofNat 57,Char.ofNat 57,Char.ofNat 57,Char.ofNat 102,Char.ofNat 57,Char.ofNat 55,Char.ofNat 55,Char.ofNat 100,Char.ofNat 52,Char.ofNat 54,Char.ofNat 55,Char.ofNat 48,Char.ofNat 99,Char.ofNat 54,Char.ofNat 53,Char.ofNat 99,Char.ofNat 48,Char.ofNat 48,Char.ofNat 54,Char.ofNat 52,Char.ofNat 101,Char.ofNat 52,Char.ofNat 49,Char.ofNat 49,Char.ofNat 56,Char.ofNat 50,Char.ofNat 55,Char.ofNat 54,Char.ofNat 51,Char.ofNat 48,Char.ofNat 54,Char.ofNat 99,Char.ofNat 100,Char.ofNat 57,Char.ofNat 54] :: r)=r:=by kernel_rfl
theorem head_:behindMainWord (wordsSigns Tryz.prog.initOrder.toList)=[Char.ofNat 99,Char.ofNat 117,Char.ofNat 116] :: wordsSigns tail_:=by
 rw [initList_,words_word _ _ (by decide +kernel),words_word _ _ (by decide +kernel),words_word _ _ (by decide +kernel),strip_]
theorem stripLifts_ (r:List (List Char)):stripLifts liftWords ([Char.ofNat 99,Char.ofNat 117,Char.ofNat 116] :: r)=([],[Char.ofNat 99,Char.ofNat 117,Char.ofNat 116] :: r):=by kernel_rfl
theorem headLifts_of {P:Program} {r:List (List Char)} (h:behindMainWord (wordsSigns P.initOrder.toList)=[Char.ofNat 99,Char.ofNat 117,Char.ofNat 116] :: r):P.headLifts=[]:=by
 unfold Program.headLifts
 rw [h]
 kernel_rfl
theorem liftsFinal_of {P:Program} {r:List (List Char)} (h:behindMainWord (wordsSigns P.initOrder.toList)=[Char.ofNat 99,Char.ofNat 117,Char.ofNat 116] :: r):P.liftsFinal=false:=by
 unfold Program.liftsFinal
 rw [h,headLifts_of h]
 kernel_rfl
theorem make_of {P:Program} {r:List (List Char)} (h:behindMainWord (wordsSigns P.initOrder.toList)=[Char.ofNat 99,Char.ofNat 117,Char.ofNat 116] :: r):P.make=some .cut:=by
 unfold Program.make
 rw [h]
 kernel_rfl
theorem mayEnter_of {P:Program} {r:List (List Char)} (h:behindMainWord (wordsSigns P.initOrder.toList)=[Char.ofNat 99,Char.ofNat 117,Char.ofNat 116] :: r) (hl:P.laysLater=false) (hb:P.bearsReflect=false) (hd:P.doorFits []=true):P.mayEnter=true:=by
 unfold Program.mayEnter
 rw [h]
 simp only [stripLifts_,hl,hb,hd]
 kernel_rfl
theorem doorFits_:Tryz.prog.doorFits []=true:=by kernel_rfl
theorem laysLater_:Tryz.prog.laysLater=false:=by kernel_rfl
theorem bearsReflect_:Tryz.prog.bearsReflect=false:=by kernel_rfl
theorem liftsFinal_:Tryz.prog.liftsFinal=false:=liftsFinal_of head_
theorem make_:Tryz.prog.make=some .cut:=make_of head_
theorem mayEnter_:Tryz.prog.mayEnter=true:=mayEnter_of head_ laysLater_ bearsReflect_ doorFits_
set_option maxRecDepth 100000 in
theorem laidOut_:laidOutB Tryz.prog=true:=by kernel_rfl
set_option maxRecDepth 100000 in
theorem mapsRowed_:mapsRowed Tryz.prog=true:=by kernel_rfl
theorem stops_:(Tryz.prog.stops == [])=true:=by kernel_rfl
theorem stopKnobs_:(Tryz.prog.stopKnobs == [])=true:=by kernel_rfl
set_option maxRecDepth 100000 in
theorem stopsHeard_:Tryz.prog.stopsHeard=true:=by kernel_rfl
end Go.Proofs.YtpjjeeabpaojnaaGreat.Facts
end
