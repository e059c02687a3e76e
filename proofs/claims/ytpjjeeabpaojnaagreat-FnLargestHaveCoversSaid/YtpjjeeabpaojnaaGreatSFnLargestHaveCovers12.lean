/- Texts of this claim put together (12): words, what the functions compute, and plain facts. No conditions. -/
import Derived.Test.YtpjjeeabpaojnaaGreatSFnLargestHaveCovers4
import Derived.Sort.Grow
import Derived.Maps.AppendAt
import Derived.Outline
import Derived.Lib.Hide
import Derived.Test.YtpjjeeabpaojnaaGreatProg
import Derived.Shelf.SlSortCmp.NoneTotal
import Derived.Test.YtpjjeeabpaojnaaGreatSFnLargestHaveCovers5
import Derived.Test.YtpjjeeabpaojnaaGreatSFnLargestHaveCovers6
import Derived.Lib.SortBridge
import Derived.Test.YtpjjeeabpaojnaaGreatSFnLargestHaveCovers7
import Derived.Test.YtpjjeeabpaojnaaGreatSFnLargestHaveCovers8
import Derived.Test.YtpjjeeabpaojnaaGreatSFnLargestHaveCovers9
import Derived.Deep.RegionWith
import Derived.Deep.RegionLaw
import Derived.Test.YtpjjeeabpaojnaaGreatSFnLargestHaveCovers0
section
namespace Go.Proofs.YtpjjeeabpaojnaaGreat.GrowK
set_option linter.unusedVariables false
open Go Go.RowKit Go.Sort Go.Proofs.YtpjjeeabpaojnaaGreatW.PrintWords Go.Proofs.YtpjjeeabpaojnaaGreatW.PrintLast Go.Proofs.YtpjjeeabpaojnaaGreatW.PrintMore
structure BelD (w w':World):Prop where
 below:Below w.heap.size w w'
 drawn:w.drawn≤w'.drawn
theorem BelD.refl (w:World):BelD w w:=⟨Below.refl _ _,Nat.le_refl _⟩
theorem BelD.trans {a b c:World} (h:BelD a b) (k:BelD b c):BelD a c:=⟨h.below.trans (k.below.mono h.below.size),Nat.le_trans h.drawn k.drawn⟩
theorem BelD.drewN {a b:World} (h:BelD a b) (n:Nat):BelD a (b.drewN n):=⟨pw_below_drewN h.below n,Nat.le_trans h.drawn (by show b.drawn≤b.drawn + n;omega)⟩
theorem BelD.drew {a b:World} (h:BelD a b):BelD a b.drew:=⟨below_drew1 h.below,Nat.le_trans h.drawn (by show b.drawn≤b.drawn + 1;omega)⟩
theorem BelD.alloc {a b:World} (h:BelD a b) (o:Obj):BelD a (b.alloc o):=⟨below_alloc h.below o,h.drawn⟩
theorem BelD.grown {w w':World} (h:BelD w w'):∃ q os,w'=grow (w.drewN q) os:=by
 refine ⟨w'.drawn - w.drawn,w'.heap.extract w.heap.size w'.heap.size,?_⟩
 obtain ⟨⟨h1,h2,h3,h4,h5⟩,h6⟩:=h
 have hh:w'.heap=w.heap ++ w'.heap.extract w.heap.size w'.heap.size:=by
  apply Array.ext
  ·
   simp;omega
  ·
   intro i hi1 hi2
   by_cases hi:i < w.heap.size
   ·
    have:=h5 i hi
    rw [Array.getElem?_eq_getElem hi1,Array.getElem?_eq_getElem hi] at this
    rw [Array.getElem_append_left hi]
    exact Option.some.inj this
   ·
    rw [Array.getElem_append_right (by omega),Array.getElem_extract]
    congr 1
    omega
 have hd:w.drawn + (w'.drawn - w.drawn)=w'.drawn:=by omega
 cases w with
|mk hp tp dr os ot =>
  cases w' with
 |mk hp' tp' dr' os' ot' =>
   simp only at h1 h2 h3 hh hd
   subst h1 h2 h3
   unfold grow World.drewN
   simp only [hd,← hh]
section
variable {P : Program} (w : World)
theorem append_drawn (base:Nat) (t ty e:TypeId) (i:TypeInfo) (z:Value) (size bytes:Nat) (ht:P.underlying t=some (.slice e)) (hi:P.info? e=some i) (hz:i.zero=some z)
  (hsize:i.size=size) (hby:i.bytes=bytes) (hzs:z.cells.size=size) (hsz:0 < size)
  (v:Value) (n:Nat) (xs:List Value) (hown:w.ownsRow base e size v n xs)
  (a:Addr) (c:Nat) (news:List Value) (hl:news.length=1 * size) (hnews:∀ j u,news[j]?=some u→w.cell? (a.add j)=some u) (h1:∀ u ∈ news,u.oneCell'=true)
  (hbytes:(n + 1) * bytes≤140737488355328) (h63:n + 1≤140737488355328) {v':Value} {w':World} (h:(Builtin.append_ #[t,t] ty #[v,.slice (some a) 1 c]).run P w=.ok v' w'):w.drawn≤w'.drawn:=by
 subst hsize
 subst hby
 have hlen:(xs ++ news).length=(n + 1) * i.size:=by rw [List.length_append,hown.1,hl,Nat.add_mul]
 rcases hown.2 with ⟨rfl,rfl⟩|⟨g,cap,cur,rfl,hbg,hg,hnc,hcm,hcs,htake⟩
 ·
  have hr:=run_append_nil (P:=P) w t ty e i z ht hi hz a 1 c news hl hnews (by omega) (by omega) (by have hb:=hbytes;simp only [Nat.zero_add] at hb;omega)
  rw [hr] at h
  injection h with _ h2
  subst h2
  show w.drawn≤w.drawn + 1
  omega
 ·
  by_cases hroom:n + 1≤cap
  ·
   have hfit:n * i.size + news.length≤cur.size:=by rw [hl,hcs,← Nat.add_mul];exact Nat.mul_le_mul_right _ hroom
   have hr:=run_append_room (P:=P) w t ty e i ht hi g n cap cur hg a 1 c news hl hnews h1 hroom hfit
   rw [hr] at h
   injection h with _ h2
   subst h2
   exact Nat.le_refl _
  ·
   have holds:∀ j u,xs[j]?=some u→w.cell? ((⟨g,0,none⟩:Addr).add j)=some u:=hown.cells (g:=g) rfl
   have hr:=run_append_grow (P:=P) w t ty e i z ht hi hz ⟨g,0,none⟩ n cap xs hown.1 holds a 1 c news hl hnews (by omega) (by omega) (growslice_fits (by omega) hbytes)
   rw [hr] at h
   injection h with _ h2
   subst h2
   show w.drawn≤w.drawn + 1
   omega
end
section
variable {P : Program} {ops : Array Oper} {rest : List Oper} {o : Oper} {a : Act} {Q : Exit → Act → World → Prop} {α : Type}
theorem R_append_d (d:Kd α) {w0 W:World} (base:Nat) (hgd:o.guard=none) (s x:Operand) (t e:TypeId) (z:Value) (bytes:Nat)
  (ho:o.op=.call { callee:=.builtin .append,args:=#[s,x],argTypes:=#[t,t] })
  (ht:P.underlying t=some (.slice e)) (hinfo:(P.info? e).map (fun i=>(i.zero,i.size,i.bytes))=some (some z,d.sz,bytes)) (hz:z.cells.size=d.sz) (hs0:0 < d.sz) (hb0:0 < bytes)
  (v:Value) (xs:List α) (p:α) (cs:List Value) (ok okp:Nat→Prop) (hs:a.eval s=v) (hx:a.eval x=.slice (some ⟨W.heap.size,0,none⟩) 1 1) (hp:d.M W base okp p cs) (hokp:∀ k,okp k→ok k∧some k ≠ v.ownBlock) (hfresh:∀ k,W.heap.size≤k→ok k)
  (HO:d.R e W base ok v xs) (HB:BelD w0 W) (hbase:base≤W.heap.size) (hb2:w0.heap.size≤base) (hl:(xs.length + 1) * bytes≤140737488355328)
  (h:∀ v1 w1,d.R e w1 base ok v1 (xs ++ [p])→BelD w0 w1→wpList P ops Q rest (a.put o.dst v1) w1) :
  wpList P ops Q (o :: rest) a (W.alloc (.cells cs.toArray e)):=by
 obtain ⟨h0,inner,hown,hr⟩:=HO
 obtain ⟨i0,hi,hzz⟩:=Option.map_eq_some_iff.1 hinfo
 simp only [Prod.mk.injEq] at hzz
 obtain ⟨hz0,hz1,hz2⟩:=hzz
 have hlen:xs.length + 1≤140737488355328:=Nat.le_trans (Nat.le_mul_of_pos_right _ hb0) hl
 have hys:=d.K_len (d.K_of_M hp)
 have h1:=d.K_one (d.K_of_M hp)
 have hnews:∀ j u,cs[j]?=some u→(W.alloc (.cells cs.toArray e)).cell? ((⟨W.heap.size,0,none⟩:Addr).add j)=some u:=by simpa using World.news_of_block (cs:=cs.toArray) (t:=e) (fr:=(0,0)) (heap_alloc_new W (.cells cs.toArray e))
 refine wpList_plain hgd fun K hK=>?_
 obtain ⟨v1,w1,hrun,hown1,hg,_,hat⟩:=run_append_own_at (P:=P) (W.alloc (.cells cs.toArray e)) base t o.type e i0 z d.sz bytes ht hi hz0 hz1 hz2 hz hs0 v xs.length inner (hown.alloc _) ⟨W.heap.size,0,none⟩ 1 1 cs (by rw [hys];simp) hnews h1 (by simp only [maxLen];omega) hl (by simp;omega)
 have hd:=append_drawn (P:=P) (W.alloc (.cells cs.toArray e)) base t o.type e i0 z d.sz bytes ht hi hz0 hz1 hz2 hz hs0 v xs.length inner (hown.alloc _) ⟨W.heap.size,0,none⟩ 1 cs (by rw [hys];simp) hnews h1 hl hlen hrun
 unfold Oper.wp execOp
 simp only [ho,resolve,invoke,builtin,Sem.run_bind,Sem.run_pure,Result.andThen_ok,List.map_toArray,List.map_cons,List.map_nil,hs,hx,hrun]
 have hat2:v1.ownBlock=v.ownBlock ∨ ∃ b,v1.ownBlock=some b∧W.heap.size≤b:=by
  rcases hat with hat|hat
  ·
   exact .inl hat
  ·
   exact .inr ⟨_,hat,by simp⟩
 have hg2:=World.grownBy.trans (World.grownBy_alloc W _ _) hg
 refine hK _ _ (h v1 w1 (Kd.R_appended h0 hr hp hokp hfresh hown1 hg2 hat2) ⟨?_,Nat.le_trans HB.drawn hd⟩)
 exact (below_alloc HB.below _).grown hg (by have:=HB.below.size;simp;omega) (fun k hk=>Nat.le_trans hb2 (own_base hown k hk))
theorem R_lit_d (d:Kd α) {W:World} (e:Nat) (hgd:o.guard=none) {N:Tmp} (_hd:o.dst=some N) {xs:List α} {inner:List Value} {ok okp:Nat→Prop}
  (hrun:(execOp a.eval o).run P W=.ok (.value (.slice (some ⟨W.heap.size,0,none⟩) xs.length xs.length)) (W.alloc (.cells inner.toArray e)))
  (hrep:Reps (d.M W W.heap.size okp) d.sz xs inner) (hok:∀ k,okp k→ok k) (hfresh:ok W.heap.size) (hm:xs.length≤9223372036854775807)
  (h:∀ v1 w1,d.R e w1 W.heap.size ok v1 xs→BelD W w1→wpList P ops Q rest (a.put o.dst v1) w1):wpList P ops Q (o :: rest) a W:=by
 refine Kd.event_run hgd hrun (h _ _ ⟨fun k hk=>?_,inner,?_,?_⟩ ((BelD.refl W).alloc _))
 ·
  have:W.heap.size=k:=by simpa [Value.ownBlock] using hk
  subst this
  exact hfresh
 ·
  have h2:=World.ownsRow_lit (base:=W.heap.size) (e:=e) (size:=d.sz) W inner.toArray xs.length (Nat.le_refl _) (by simpa [maxLen] using hm) (by simpa using hrep.1)
  simpa using h2
 ·
  refine hrep.imp_ (fun p c hp=>d.M_mono (fun k hk=>⟨hok k hk.1,fun he=>?_⟩) (Kd.M_below (d.M_bound hp) (below_alloc (Below.refl _ _) _)))
  have h3:k=W.heap.size:=by simpa [Value.ownBlock] using he
  have:=hk.2.2.1
  omega
end
end Go.Proofs.YtpjjeeabpaojnaaGreat.GrowK
end
section
namespace Go.Proofs.YtpjjeeabpaojnaaGreat.Lay
open Go.Shelf Go.Proofs
def sortI_ren:Go.Shelf.Ren:=⟨fun|6=>80|15=>77|14=>100|28=>98|29=>99|20=>109|21=>110|22=>111|23=>112|24=>113|25=>114|26=>115|27=>116|46=>119|47=>105|48=>106|49=>120|50=>121|57=>122|n=>n,fun|22=>24|24=>3|25=>88|3=>3|39=>87|0=>0|53=>101|55=>66|4=>4|46=>95|45=>94|50=>44|5=>5|9=>9|66=>104|70=>108|76=>115|77=>116|n=>n,fun|n=>n⟩
theorem sortI:Go.Proofs.SlLaysF.n6 Tryz.prog sortI_ren:={
 mixed:=by kernel_rfl,
 f6:=⟨Tryz.f80.name,by decide,Tryz.func80.trans (congrArg some (by kernel_rfl))⟩,
 f14:=⟨Tryz.f100.name,by decide,Tryz.func100.trans (congrArg some (by kernel_rfl))⟩,
 f15:=Tryz.func77.trans (congrArg some (by kernel_rfl)),
 f20:=⟨Tryz.f109.name,by decide,Tryz.func109.trans (congrArg some (by kernel_rfl))⟩,
 f21:=⟨Tryz.f110.name,by decide,Tryz.func110.trans (congrArg some (by kernel_rfl))⟩,
 f22:=⟨Tryz.f111.name,by decide,Tryz.func111.trans (congrArg some (by kernel_rfl))⟩,
 f23:=⟨Tryz.f112.name,by decide,Tryz.func112.trans (congrArg some (by kernel_rfl))⟩,
 f24:=⟨Tryz.f113.name,by decide,Tryz.func113.trans (congrArg some (by kernel_rfl))⟩,
 f25:=⟨Tryz.f114.name,by decide,Tryz.func114.trans (congrArg some (by kernel_rfl))⟩,
 f26:=⟨Tryz.f115.name,by decide,Tryz.func115.trans (congrArg some (by kernel_rfl))⟩,
 f27:=⟨Tryz.f116.name,by decide,Tryz.func116.trans (congrArg some (by kernel_rfl))⟩,
 f28:=Tryz.func98.trans (congrArg some (by kernel_rfl)),
 f29:=Tryz.func99.trans (congrArg some (by kernel_rfl)),
 f46:=⟨Tryz.f119.name,by decide,Tryz.func119.trans (congrArg some (by kernel_rfl))⟩,
 f47:=Tryz.func105.trans (congrArg some (by kernel_rfl)),
 f48:=Tryz.func106.trans (congrArg some (by kernel_rfl)),
 f49:=⟨Tryz.f120.name,by decide,Tryz.func120.trans (congrArg some (by kernel_rfl))⟩,
 f50:=⟨Tryz.f121.name,by decide,Tryz.func121.trans (congrArg some (by kernel_rfl))⟩,
 f57:=⟨Tryz.f122.name,by decide,Tryz.func122.trans (congrArg some (by kernel_rfl))⟩,
 t0:=Tryz.underlying0,
 a0:=Tryz.isAgg0,
 z0:=Tryz.sizeOf0,
 v0:=Tryz.zeroValue0,
 t3:=Tryz.underlying3,
 a3:=Tryz.isAgg3,
 z3:=Tryz.sizeOf3,
 v3:=Tryz.zeroValue3,
 t4:=Tryz.underlying4,
 a4:=Tryz.isAgg4,
 z4:=Tryz.sizeOf4,
 v4:=Tryz.zeroValue4,
 t5:=Tryz.underlying5,
 a5:=Tryz.isAgg5,
 z5:=Tryz.sizeOf5,
 v5:=Tryz.zeroValue5,
 t9:=Tryz.underlying9,
 a9:=Tryz.isAgg9,
 z9:=Tryz.sizeOf9,
 v9:=Tryz.zeroValue9,
 t22:=Tryz.underlying24,
 a22:=Tryz.isAgg24,
 z22:=Tryz.sizeOf24,
 v22:=Tryz.zeroValue24,
 a24:=Tryz.isAgg3,
 z24:=Tryz.sizeOf3,
 t25:=Tryz.underlying88,
 a25:=Tryz.isAgg88,
 z25:=Tryz.sizeOf88,
 v25:=Tryz.zeroValue88,
 t39:=Tryz.underlying87,
 a39:=Tryz.isAgg87,
 z39:=Tryz.sizeOf87,
 v39:=Tryz.zeroValue87,
 t45:=Tryz.underlying94,
 a45:=Tryz.isAgg94,
 z45:=Tryz.sizeOf94,
 v45:=Tryz.zeroValue94,
 t46:=Tryz.underlying95,
 a46:=Tryz.isAgg95,
 z46:=Tryz.sizeOf95,
 v46:=Tryz.zeroValue95,
 t50:=Tryz.underlying44,
 a50:=Tryz.isAgg44,
 z50:=Tryz.sizeOf44,
 v50:=Tryz.zeroValue44,
 t53:=Tryz.underlying101,
 a53:=Tryz.isAgg101,
 z53:=Tryz.sizeOf101,
 v53:=Tryz.zeroValue101,
 t55:=Tryz.underlying66,
 a55:=Tryz.isAgg66,
 z55:=Tryz.sizeOf66,
 v55:=Tryz.zeroValue66,
 t66:=Tryz.underlying104,
 a66:=Tryz.isAgg104,
 z66:=Tryz.sizeOf104,
 v66:=Tryz.zeroValue104,
 t70:=Tryz.underlying108,
 a70:=Tryz.isAgg108,
 z70:=Tryz.sizeOf108,
 v70:=Tryz.zeroValue108,
 t76:=Tryz.underlying115,
 a76:=Tryz.isAgg115,
 z76:=Tryz.sizeOf115,
 v76:=Tryz.zeroValue115,
 t77:=Tryz.underlying116,
 a77:=Tryz.isAgg116,
 z77:=Tryz.sizeOf116,
 v77:=Tryz.zeroValue116 }
def sortS_ren:Go.Shelf.Ren:=⟨fun|6=>51|15=>77|14=>76|28=>98|29=>99|20=>90|21=>91|22=>92|23=>93|24=>94|25=>95|26=>96|27=>97|46=>104|47=>105|48=>106|49=>107|50=>108|57=>118|n=>n,fun|22=>28|24=>24|25=>74|3=>3|39=>87|0=>0|53=>101|55=>66|4=>4|46=>95|45=>94|50=>44|5=>5|9=>9|66=>104|70=>108|76=>115|77=>116|n=>n,fun|n=>n⟩
theorem sortS:Go.Proofs.SlLaysF.n6 Tryz.prog sortS_ren:={
 mixed:=by kernel_rfl,
 f6:=⟨Tryz.f51.name,by decide,Tryz.func51.trans (congrArg some (by kernel_rfl))⟩,
 f14:=⟨Tryz.f76.name,by decide,Tryz.func76.trans (congrArg some (by kernel_rfl))⟩,
 f15:=Tryz.func77.trans (congrArg some (by kernel_rfl)),
 f20:=⟨Tryz.f90.name,by decide,Tryz.func90.trans (congrArg some (by kernel_rfl))⟩,
 f21:=⟨Tryz.f91.name,by decide,Tryz.func91.trans (congrArg some (by kernel_rfl))⟩,
 f22:=⟨Tryz.f92.name,by decide,Tryz.func92.trans (congrArg some (by kernel_rfl))⟩,
 f23:=⟨Tryz.f93.name,by decide,Tryz.func93.trans (congrArg some (by kernel_rfl))⟩,
 f24:=⟨Tryz.f94.name,by decide,Tryz.func94.trans (congrArg some (by kernel_rfl))⟩,
 f25:=⟨Tryz.f95.name,by decide,Tryz.func95.trans (congrArg some (by kernel_rfl))⟩,
 f26:=⟨Tryz.f96.name,by decide,Tryz.func96.trans (congrArg some (by kernel_rfl))⟩,
 f27:=⟨Tryz.f97.name,by decide,Tryz.func97.trans (congrArg some (by kernel_rfl))⟩,
 f28:=Tryz.func98.trans (congrArg some (by kernel_rfl)),
 f29:=Tryz.func99.trans (congrArg some (by kernel_rfl)),
 f46:=⟨Tryz.f104.name,by decide,Tryz.func104.trans (congrArg some (by kernel_rfl))⟩,
 f47:=Tryz.func105.trans (congrArg some (by kernel_rfl)),
 f48:=Tryz.func106.trans (congrArg some (by kernel_rfl)),
 f49:=⟨Tryz.f107.name,by decide,Tryz.func107.trans (congrArg some (by kernel_rfl))⟩,
 f50:=⟨Tryz.f108.name,by decide,Tryz.func108.trans (congrArg some (by kernel_rfl))⟩,
 f57:=⟨Tryz.f118.name,by decide,Tryz.func118.trans (congrArg some (by kernel_rfl))⟩,
 t0:=Tryz.underlying0,
 a0:=Tryz.isAgg0,
 z0:=Tryz.sizeOf0,
 v0:=Tryz.zeroValue0,
 t3:=Tryz.underlying3,
 a3:=Tryz.isAgg3,
 z3:=Tryz.sizeOf3,
 v3:=Tryz.zeroValue3,
 t4:=Tryz.underlying4,
 a4:=Tryz.isAgg4,
 z4:=Tryz.sizeOf4,
 v4:=Tryz.zeroValue4,
 t5:=Tryz.underlying5,
 a5:=Tryz.isAgg5,
 z5:=Tryz.sizeOf5,
 v5:=Tryz.zeroValue5,
 t9:=Tryz.underlying9,
 a9:=Tryz.isAgg9,
 z9:=Tryz.sizeOf9,
 v9:=Tryz.zeroValue9,
 t22:=Tryz.underlying28,
 a22:=Tryz.isAgg28,
 z22:=Tryz.sizeOf28,
 v22:=Tryz.zeroValue28,
 a24:=Tryz.isAgg24,
 z24:=Tryz.sizeOf24,
 t25:=Tryz.underlying74,
 a25:=Tryz.isAgg74,
 z25:=Tryz.sizeOf74,
 v25:=Tryz.zeroValue74,
 t39:=Tryz.underlying87,
 a39:=Tryz.isAgg87,
 z39:=Tryz.sizeOf87,
 v39:=Tryz.zeroValue87,
 t45:=Tryz.underlying94,
 a45:=Tryz.isAgg94,
 z45:=Tryz.sizeOf94,
 v45:=Tryz.zeroValue94,
 t46:=Tryz.underlying95,
 a46:=Tryz.isAgg95,
 z46:=Tryz.sizeOf95,
 v46:=Tryz.zeroValue95,
 t50:=Tryz.underlying44,
 a50:=Tryz.isAgg44,
 z50:=Tryz.sizeOf44,
 v50:=Tryz.zeroValue44,
 t53:=Tryz.underlying101,
 a53:=Tryz.isAgg101,
 z53:=Tryz.sizeOf101,
 v53:=Tryz.zeroValue101,
 t55:=Tryz.underlying66,
 a55:=Tryz.isAgg66,
 z55:=Tryz.sizeOf66,
 v55:=Tryz.zeroValue66,
 t66:=Tryz.underlying104,
 a66:=Tryz.isAgg104,
 z66:=Tryz.sizeOf104,
 v66:=Tryz.zeroValue104,
 t70:=Tryz.underlying108,
 a70:=Tryz.isAgg108,
 z70:=Tryz.sizeOf108,
 v70:=Tryz.zeroValue108,
 t76:=Tryz.underlying115,
 a76:=Tryz.isAgg115,
 z76:=Tryz.sizeOf115,
 v76:=Tryz.zeroValue115,
 t77:=Tryz.underlying116,
 a77:=Tryz.isAgg116,
 z77:=Tryz.sizeOf116,
 v77:=Tryz.zeroValue116 }
end Go.Proofs.YtpjjeeabpaojnaaGreat.Lay
end
section
namespace Go.Proofs.YtpjjeeabpaojnaaGreat.SortM
set_option linter.unusedVariables false
open Go Go.Shelf Go.RowKit Go.Lib Go.Sort Go.Proofs Go.Proofs.YtpjjeeabpaojnaaGreat.Q Go.Proofs.YtpjjeeabpaojnaaGreatW.PrintWords Go.Proofs.YtpjjeeabpaojnaaGreatW.PrintLast Go.Proofs.YtpjjeeabpaojnaaGreatW.PrintMore
open Go.Proofs.YtpjjeeabpaojnaaGreatL Go.Proofs.YtpjjeeabpaojnaaGreat.LawK Go.Proofs.YtpjjeeabpaojnaaGreat.BoardK Go.Proofs.YtpjjeeabpaojnaaGreat.LinesK Go.Proofs.YtpjjeeabpaojnaaGreat.GrowK
def fullM:List Nat:=[0,1,2,4,8,16,32,3,5,9,17,33,6,10,18,34,12,20,36,24,40,48,7,11,19,35,13,21,37,25,41,49,14,22,38,26,42,50,28,44,52,56,15,23,39,27,43,51,29,45,53,57,30,46,54,58,60,31,47,55,59,61,62,63]
def rankM (m:Nat):Nat:=fullM.idxOf m
def cmpM (x y:Nat):Int:=if (listM x).length=(listM y).length then (slices_Compare_int_int.f 20 (listM x) (listM y)).getD 0 else ((listM x).length:Int) - (listM y).length
theorem count_all:∀ m:Fin 64,impl_count.f (m.val:Int)=some ((listM m.val).length:Int):=by decide +kernel
theorem compare_all:∀ x y:Fin 64,(listM x.val).length=(listM y.val).length→slices_Compare_int_int.f 20 (listM x.val) (listM y.val)=some (cmpM x.val y.val):=by decide +kernel
theorem rank_all:∀ x y:Fin 64,decide (cmpM x.val y.val < 0)=decide (rankM x.val < rankM y.val):=by decide +kernel
theorem rank_inj:∀ x y:Fin 64,rankM x.val=rankM y.val→x=y:=by decide +kernel
def cfM (x y:Fin 64):Int:=cmpM x.val y.val
theorem ltM (x y:Fin 64):ltOf cfM x y=decide (rankM x.val < rankM y.val):=rank_all x y
theorem swoM:SWO (ltOf cfM) where
 irrefl x:=by rw [ltM];simp
 trans x y z h1 h2:=by rw [ltM] at *;simp at *;omega
 ntrans x y z h1 h2:=by rw [ltM] at *;simp at *;omega
theorem totM (x y:Fin 64) (h1:ltOf cfM x y=false) (h2:ltOf cfM y x=false):x=y:=by
 rw [ltM] at h1 h2
 simp only [decide_eq_false_iff_not] at h1 h2
 exact rank_inj x y (by omega)
set_option maxHeartbeats 4000000 in
set_option maxRecDepth 100000 in
theorem listOf_d (m:Nat) (hm:m < 64) (w:World):Calls Tryz.prog 59 #[.int .i64 (m:Int)] w fun e w'=>∃ v0:Value,e=.returned v0∧Kd.R (Kd.int .i64) 3 w' w.heap.size (fun _=>True) v0 (listM m)∧BelD w w':=by
 obtain ⟨r,hr⟩:∃ r,r=listM m:=⟨_,rfl⟩
 have hrl:r.length≤6:=by rw [hr];exact listM_len m
 rw [← hr]
 have HR:=Aside0.mk hr
 have HL:=Aside0.mk hrl
 have HM:=Aside0.mk hm
 clear hr hrl
 go_enter Tryz.func59,Tryz.ntmps59
 go_wp2_with (first|((with_reducible refine gate_dst (N:=5) rfl ?_);refine R_lit_d (Kd.int .i64) 3 ?hg (N:=5) ?hd (xs:=([]:List Int)) (inner:=[]) (ok:=fun _=>True) (okp:=fun _=>True) ?hr ?hp (fun _ hk=>hk) trivial (by simp) ?_;(case hd=>rfl);(case hg=>rfl);(case hr=>first|(go_simp;done)|(go_simp;rfl));(case hp=>exact (Reps.none _ _));intro v5 w5 ho hb;have O5:=Aside0.mk ho;have B5:=Aside0.mk hb;clear ho hb))
 go_loopg [3,6] 6 (fun kq v3 v6 w'=>∃ (xs:List Int) (x:Int),v6=.int .i64 x∧Aside0 (∃ i:Nat,x=i∧i + kq=6∧xs ++ (iota i kq).filter (fun i=>m.testBit i.toNat)=r)∧Aside0 (Kd.R (Kd.int .i64) 3 w' w.heap.size (fun _=>True) v3 xs)∧Aside0 (BelD w w'))
 case atStart=>exact ⟨[],0,rfl,⟨0,rfl,rfl,by rw [HR.out];rfl⟩,O5,B5⟩
 case round =>
  clear O5 B5
  obtain ⟨xs,x,rfl,HI,HS,HB⟩:=hrel
  by_cases c4:x < 6
  ·
   have c4b0:decide (x < 6)=true:=decide_eq_true c4
   cases gk with
  |zero=>exact absurd HI.out (by rintro ⟨i,h1,h2,_⟩;omega)
  |succ k1 =>
    have hx0:0≤x:=by obtain ⟨i,h1,_⟩:=HI.out;omega
    have c5b0:=eq_true hx0
    have c5b1:decide (0≤x)=true:=decide_eq_true hx0
    obtain ⟨ji,hji⟩:∃ j_:Int,(shr .i64 (m:Int) x)=j_:=⟨_,rfl⟩
    have hji_:((m:Int) / 2 ^ min x.toNat 64)=ji:=hji
    have hjiz:x≤64→((m:Int) / 2 ^ x.toNat)=ji:=shr_small hji
    have HX:=Aside0.mk (show ∃ i:Nat,x=i∧i + k1 + 1=6∧xs ++ (if m.testBit i=true then [x] else []) ++ (iota (x + 1) k1).filter (fun i=>m.testBit i.toNat)=r from by
     obtain ⟨i,h1,h2,h3⟩:=HI.out
     refine ⟨i,h1,by omega,?_⟩
     rw [iota,List.filter_cons,Int.toNat_natCast] at h3
     rw [h1,List.append_assoc]
     by_cases hb:m.testBit i=true
     ·
      rw [if_pos hb] at h3 ⊢;exact h3
     ·
      rw [if_neg hb] at h3 ⊢;exact h3)
    have HJ:=Aside0.mk (show ∀ i:Nat,x=i→Go.bits .and .i64 ji 1=if m.testBit i then 1 else 0 from by
     intro i hi
     rw [← hji,hi]
     exact bit_and m i (by have:=HM.out;omega) (by omega))
    have HW:=Aside0.mk (show wrap64 (x + 1)=x + 1 from w64 (by omega) (by omega))
    clear HI c4 hx0 hji
    by_cases c7:Go.bits .and .i64 ji 1=1
    ·
     have c7b0:(Go.bits .and .i64 ji 1 == 1)=true:=beq_iff_eq.mpr c7
     have c7b1:(Go.bits .and .i64 ji 1 != 1)=false:=bne_eq_false_iff_eq.mpr c7
     have HN:=Aside0.mk (show ∃ i:Nat,wrap64 (x + 1)=i∧i + k1=6∧(xs ++ [x]) ++ (iota i k1).filter (fun i=>m.testBit i.toNat)=r from by
      obtain ⟨i,h1,h2,h3⟩:=HX.out
      have hb:m.testBit i=true:=by
       have:=HJ.out i h1
       rw [c7] at this
       by_cases hb:m.testBit i=true
       ·
        exact hb
       ·
        rw [if_neg hb] at this;omega
      rw [if_pos hb] at h3
      refine ⟨i + 1,by rw [HW.out];omega,by omega,?_⟩
      rw [show (((i + 1:Nat):Int))=x + 1 by omega]
      exact h3)
     have HXL:=Aside0.mk (show xs.length≤6 from by
      obtain ⟨i,h1,h2,h3⟩:=HN.out
      have:=congrArg List.length h3
      have:=HL.out
      simp only [List.length_append] at *
      omega)
     clear c7 HX HJ
     go_wp2_with (first|((with_reducible refine gate_builtin (b:=.append) (xs:=#[.tmp 14,.tmp 16]) rfl ?_);at_builtin;refine R_append_d (Kd.int .i64) (w0:=w) w.heap.size rfl (.tmp 14) (.tmp 16) 24 3 (.int .i64 0) 8 rfl Tryz.underlying24 info3 rfl (by decide) (by omega) u3 xs x [.int .i64 x] (fun _=>True) (fun _=>False) rfl rfl ?aP (fun _ hk=>hk.elim) (fun _ _=>trivial) ?aO ?aB ?aS (Nat.le_refl _) ?aL ?_;(case aP=>exact rfl);(case aO=>exact HS.out);(case aB=>exact HB.out);(case aS=>exact HB.out.below.size);(case aL=>have:=HXL.out;omega);intro v9 w9 ho hb;have O9:=Aside0.mk ho;have B9:=Aside0.mk hb;clear ho hb))
     go_roundg k1
     case measure=>omega
     case rel=>exact ⟨xs ++ [x],wrap64 (x + 1),(by first|rfl|(simp;done)|(simp [*];done)),HN,O9,B9⟩
    ·
     have c7b0:(Go.bits .and .i64 ji 1 == 1)=false:=beq_eq_false_iff_ne.mpr c7
     have c7b1:(Go.bits .and .i64 ji 1 != 1)=true:=bne_iff_ne.mpr c7
     have HN:=Aside0.mk (show ∃ i:Nat,wrap64 (x + 1)=i∧i + k1=6∧xs ++ (iota i k1).filter (fun i=>m.testBit i.toNat)=r from by
      obtain ⟨i,h1,h2,h3⟩:=HX.out
      have hb:¬ m.testBit i=true:=fun hb=>by
       have:=HJ.out i h1
       rw [if_pos hb] at this
       exact c7 this
      rw [if_neg hb,List.append_nil] at h3
      refine ⟨i + 1,by rw [HW.out];omega,by omega,?_⟩
      rw [show (((i + 1:Nat):Int))=x + 1 by omega]
      exact h3)
     clear c7 HX HJ
     go_wp2
     go_roundg k1
     case measure=>omega
     case rel=>exact ⟨xs,wrap64 (x + 1),(by first|rfl|(simp;done)|(simp [*];done)),HN,⟨by (with_reducible repeat (first|apply Kd.R_alloc|apply Kd.R_drewN|apply Kd.R_drew));exact HS.out⟩,⟨by repeat (first|exact HB.out|refine BelD.drewN ?_ _|refine BelD.drew ?_)⟩⟩
  ·
   have c4b0:decide (x < 6)=false:=decide_eq_false c4
   have HE:=Aside0.mk (show xs=r from by
    obtain ⟨i,h1,h2,h3⟩:=HI.out
    rw [show gk=0 by omega,iota,List.filter_nil,List.append_nil] at h3
    exact h3)
   clear c4 HI
   go_wp2
   go_ret
   exact ⟨_,rfl,by rw [← HE.out];exact HS.out,HB.out⟩
set_option maxHeartbeats 4000000 in
set_option maxRecDepth 100000 in
theorem cmp_n (x y:Int) (lx ly:List Int) (r:Int) (hlx:lx.length≤6) (hly:ly.length≤6) (hc1:impl_count.f x=some (lx.length:Int)) (hc2:impl_count.f y=some (ly.length:Int))
  (hX:∀ W,Calls Tryz.prog 59 #[.int .i64 x] W fun e w'=>∃ v0:Value,e=.returned v0∧Kd.R (Kd.int .i64) 3 w' W.heap.size (fun _=>True) v0 lx∧BelD W w')
  (hY:∀ W,Calls Tryz.prog 59 #[.int .i64 y] W fun e w'=>∃ v0:Value,e=.returned v0∧Kd.R (Kd.int .i64) 3 w' W.heap.size (fun _=>True) v0 ly∧BelD W w')
  (h1:lx.length=ly.length→slices_Compare_int_int.f 20 lx ly=some r) (h2:lx.length ≠ ly.length→r=(lx.length:Int) - ly.length) (w:World) :
  Calls Tryz.prog 81 #[.int .i64 x,.int .i64 y] w fun e w'=>e=.returned (.int .i64 r)∧BelD w w':=by
 have CX:=Lib.hid hX
 have CY:=Lib.hid hY
 have CA:=Lib.hid (fun W=>impl_count.calls x (lx.length:Int) W hc1)
 have CB:=Lib.hid (fun W=>impl_count.calls y (ly.length:Int) W hc2)
 obtain ⟨d,hd⟩:∃ d:Int,d=(lx.length:Int) - ly.length:=⟨_,rfl⟩
 have hw:IntKind.i64.wrap ((lx.length:Int) - ly.length)=d:=by rw [wrap_i64',w64 (by omega) (by omega),hd]
 by_cases h:lx.length=ly.length
 ·
  have e0:(d != 0)=false:=bne_eq_false_iff_eq.mpr (by omega)
  have HCP:=Aside0.mk (h1 h)
  clear h h1 h2 hlx hly hc1 hc2 hX hY hd
  go_enter Tryz.func81,Tryz.ntmps81
  go_wp2_with (first
  |(go_at_call 58;(with_reducible refine (CA.out _).mono ?_);rintro e w' ⟨rfl,⟨nd,rfl⟩⟩)
  |(go_at_call 58;(with_reducible refine (CB.out _).mono ?_);rintro e w' ⟨rfl,⟨nd,rfl⟩⟩)
  |(go_at_call 59;(with_reducible refine (CX.out _).mono ?_);rintro e wx ⟨vx,rfl,hx,hb⟩;obtain ⟨Ax,cx,rfl⟩:=Kd.R_slice hx;have RX:=Aside0.mk hx;have BX:=Aside0.mk (show BelD w wx from BelD.trans (by repeat (first|exact BelD.refl _|refine BelD.drewN ?_ _|refine BelD.drew ?_)) hb);clear hx hb CX)
  |(go_at_call 59;(with_reducible refine (CY.out _).mono ?_);rintro e wy ⟨vy,rfl,hy,hb⟩;obtain ⟨Ay,cy,rfl⟩:=Kd.R_slice hy;have RY:=Aside0.mk hy;have RX2:=Aside0.mk (Kd.R_below RX.out hb.below);have BY:=Aside0.mk (BX.out.trans hb);clear hy hb)
  |(go_at_call 82;refine (slices_Compare_int_int.calls 20 Ax cx lx Ay cy ly r _ (Kd.R_reads' RX2.out).2.2 (Kd.R_reads' RX2.out).2.1 (Kd.R_reads' RY.out).2.2 (Kd.R_reads' RY.out).2.1 HCP.out).mono ?_;rintro e w' ⟨rfl,⟨nd,rfl⟩⟩))
  go_ret
  exact ⟨rfl,by repeat (first|exact BY.out|refine BelD.drewN ?_ _|refine BelD.drew ?_)⟩
 ·
  have e0:(d != 0)=true:=bne_iff_ne.mpr (by omega)
  have hr:=h2 h
  rw [← hd] at hr
  have HR:=Aside0.mk hr
  clear h h1 h2 hr hd hlx hly hc1 hc2 hX hY CX CY
  go_enter Tryz.func81,Tryz.ntmps81
  go_wp2_with (first
  |(go_at_call 58;(with_reducible refine (CA.out _).mono ?_);rintro e w' ⟨rfl,⟨nd,rfl⟩⟩)
  |(go_at_call 58;(with_reducible refine (CB.out _).mono ?_);rintro e w' ⟨rfl,⟨nd,rfl⟩⟩))
  go_ret
  exact ⟨by rw [HR.out];rfl,by repeat (first|exact BelD.refl _|refine BelD.drewN ?_ _|refine BelD.drew ?_)⟩
theorem cmp_d (x y:Fin 64) (w:World):Calls Tryz.prog 81 #[.int .i64 (x.val:Int),.int .i64 (y.val:Int)] w fun e w'=>e=.returned (.int .i64 (cmpM x.val y.val))∧BelD w w' :=
 cmp_n (x.val:Int) (y.val:Int) (listM x.val) (listM y.val) (cmpM x.val y.val) (listM_len _) (listM_len _) (count_all x) (count_all y) (fun W=>listOf_d x.val x.isLt W) (fun W=>listOf_d y.val y.isLt W) (fun h=>compare_all x y h) (fun h=>by unfold cmpM;rw [if_neg h]) w
def toF (x:Int):Fin 64:=⟨x.toNat % 64,Nat.mod_lt _ (by decide)⟩
def encM (i:Fin 64):Value:=.int .i64 (i.val:Int)
def sortedM (l:List Int):List Int:=((l.map toF).mergeSort fun x y=>!(ltOf cfM) y x).map fun i=>(i.val:Int)
def isMask (x:Int):Bool:=decide (0≤x∧x < 64)
theorem toF_val {x:Int} (h:isMask x=true):((toF x).val:Int)=x:=by
 have h2:0≤x∧x < 64:=of_decide_eq_true h
 unfold toF
 simp only []
 omega
theorem R_written {W:World} {e base g n cap q:Nat} {ok:Nat→Prop} {xs ys:List Int} {os:Array Obj} (h:Kd.R (Kd.int .i64) e W base ok (.slice (some ⟨g,0,none⟩) n cap) xs) (hl:ys.length=xs.length) :
  Kd.R (Kd.int .i64) e (grow ((W.drewN q).setCells g 0 (ys.map (Value.int .i64))) os) base ok (.slice (some ⟨g,0,none⟩) n cap) ys∧(∀ k,k < W.heap.size→k ≠ g→(grow ((W.drewN q).setCells g 0 (ys.map (Value.int .i64))) os).heap[k]?=W.heap[k]?)∧(grow ((W.drewN q).setCells g 0 (ys.map (Value.int .i64))) os).os=W.os∧(grow ((W.drewN q).setCells g 0 (ys.map (Value.int .i64))) os).tape=W.tape∧(grow ((W.drewN q).setCells g 0 (ys.map (Value.int .i64))) os).output=W.output∧W.heap.size≤(grow ((W.drewN q).setCells g 0 (ys.map (Value.int .i64))) os).heap.size:=by
 have hn:=(Kd.R_reads' h).1
 subst hn
 have hown:=Kd.own_of_R (enc:=Value.int .i64) h
 rcases hown.2 with ⟨hv,_⟩|⟨g2,cap2,cur,hv,hbg,hg,hnc,hcm,hcs,htake⟩
 ·
  cases hv
 ·
  injection hv with e1 e2 e3
  injection e1 with e1
  injection e1 with e1 _ _
  subst e1
  subst e3
  have hg2:(W.drewN q).heap[g]?=some (.cells cur e (0,0)):=hg
  obtain ⟨cur',h3,h4,h5⟩:=setCells_row (ys.map (Value.int .i64)) 0 (W.drewN q) cur hg2 (by rw [List.length_map];omega)
  obtain ⟨s1,s2,s3,s4⟩:=setCells_same g (ys.map (Value.int .i64)) 0 (W.drewN q)
  have hlt:g < ((W.drewN q).setCells g 0 (ys.map (Value.int .i64))).heap.size:=blk_lt h3
  refine ⟨Kd.R_of_own ⟨by simp [encs],.inr ⟨g,cap,cur',by rw [hl],hbg,?_,by omega,hcm,by omega,?_⟩⟩ h.1,fun k hk hne=>?_,s1,s2,s3,?_⟩
  ·
   rw [heap_grow_old _ _ hlt];exact h3
  ·
   rw [h5]
   simp [encs]
  ·
   have hk2:k < ((W.drewN q).setCells g 0 (ys.map (Value.int .i64))).heap.size:=by rw [s4];exact hk
   rw [heap_grow_old _ _ hk2]
   exact setCells_far _ _ k hne
  ·
   rw [size_grow,s4]
   show W.heap.size≤W.heap.size + os.size
   omega
end Go.Proofs.YtpjjeeabpaojnaaGreat.SortM
namespace Go.Proofs.YtpjjeeabpaojnaaGreat.Q
set_option linter.unusedVariables false
open Go Go.Shelf Go.RowKit Go.Lib Go.Sort Go.Proofs Go.Proofs.YtpjjeeabpaojnaaGreatW.PrintWords Go.Proofs.YtpjjeeabpaojnaaGreatW.PrintLast Go.Proofs.YtpjjeeabpaojnaaGreatW.PrintMore
open Go.Proofs.YtpjjeeabpaojnaaGreat.GrowK Go.Proofs.YtpjjeeabpaojnaaGreat.SortM
def slices_SortFunc_int_int__at_impl_Board_rowSets_1.f (l0:List Int):Option (List Int):=if l0.all isMask=true∧1≤l0.length∧l0.length≤1000 then some (sortedM l0) else none
set_option maxHeartbeats 4000000 in
set_option maxRecDepth 100000 in
theorem slices_SortFunc_int_int__at_impl_Board_rowSets_1.calls (P0_:Nat→Prop) (u9000_:Value) (l0:List Int) (r:List Int) (w0 w:World) (hB:Below w0.heap.size w0 w) (ho0:Kd.R (Kd.int .i64) 3 w w0.heap.size P0_ u9000_ l0) (h:slices_SortFunc_int_int__at_impl_Board_rowSets_1.f l0=some r) :
  Calls Tryz.prog 80 #[u9000_,.func (.func 81) #[] #[]] w fun e w'=>e=.returned (.tuple #[])∧Kd.R (Kd.int .i64) 3 w' w0.heap.size (fun k_=>(P0_ k_ ∨ w.heap.size≤k_)) u9000_ r∧Below w0.heap.size w0 w'∧Kept w w' (fun k_=>P0_ k_):=by
 unfold slices_SortFunc_int_int__at_impl_Board_rowSets_1.f at h
 by_cases c:l0.all isMask=true∧1≤l0.length∧l0.length≤1000
 rotate_left
 ·
  rw [if_neg c] at h;cases h
 rw [if_pos c] at h
 obtain rfl:=Option.some.inj h
 obtain ⟨hm,h1,h2⟩:=c
 have hown:=Kd.own_of_R (enc:=Value.int .i64) ho0
 rcases hown.2 with ⟨hv,hx⟩|⟨g,cap,cur,hv,hbg,hg,hnc,hcm,hcs,htake⟩
 ·
  omega
 subst hv
 have eg:∀ args w,(callFunc 81 args).run Tryz.prog w=.ok (.enter 81 args) w:=enters_of Tryz.func81 (by kernel_rfl) rfl
 have hblk:g < w.heap.size:=blk_lt hg
 have hl:(l0.map toF).toArray.size=l0.length:=by simp
 have hH:Holds encM w g 0 (l0.map toF).toArray:=by
  intro j hj
  rw [hl] at hj
  have hc:=Kd.R_celln (0:Int) ho0 (j:Int) (by omega) (by omega)
  rw [Int.toNat_natCast] at hc
  rw [Nat.zero_add]
  refine ⟨?_,hc.2⟩
  rw [hc.1]
  have hjm:=List.all_eq_true.1 hm l0[j] (List.getElem_mem hj)
  have:(l0.map toF).toArray[j]! = toF l0[j]:=by simp [hj]
  rw [this]
  unfold encM rdOf
  rw [toF_val hjm]
  simp [hj]
 have hcmp:CmpLays1 Tryz.prog 81 #[] encM cfM g 0 (l0.map toF).toArray.size w:=fun m os dk _ x y=>(cmp_d x y _).mono fun e w' ⟨he,hb⟩=>⟨he,hb.grown⟩
 have hS:=Any.slices_SortFunc_total Lay.sortI encM (fun _=>rfl) cfM swoM 81 #[] g 0 cap (l0.map toF).toArray w eg hcmp hH hblk (by rw [hl];omega) totM
 rw [hl] at hS
 change Calls Tryz.prog 80 _ _ _ at hS
 refine hS.mono ?_
 rintro e w' ⟨rfl,n,os,rfl⟩
 have hsw:sortWorld encM w g 0 n ((l0.map toF).toArray.toList.mergeSort fun x y=>!(ltOf cfM) y x).toArray os=grow ((w.drewN n).setCells g 0 ((sortedM l0).map (Value.int .i64))) os:=by
  unfold sortWorld
  rw [Lib.sorted_world encM w g 0 n (l0.map toF).toArray _ os hH (by simp)]
  unfold sortedM
  rw [List.map_map]
  rfl
 obtain ⟨H1,H2,H3,H4,H5,H6⟩:=R_written (q:=n) (os:=os) (ys:=sortedM l0) ho0 (by simp [sortedM])
 rw [hsw]
 refine ⟨rfl,Kd.R_mono H1 (fun _ h=>.inl h),⟨H3.trans hB.os,H4.trans hB.tape,H5.trans hB.output,Nat.le_trans hB.size H6,fun k hk=>?_⟩,⟨H6,fun i hi hn=>H2 i hi (fun he=>hn (he ▸ ho0.1 g rfl))⟩⟩
 have hk2:k < w.heap.size:=Nat.lt_of_lt_of_le hk hB.size
 rw [H2 k hk2 (by omega)]
 exact hB.block k hk
end Go.Proofs.YtpjjeeabpaojnaaGreat.Q
end
section
namespace Go.Proofs.YtpjjeeabpaojnaaGreat.Q
open Go.RowKit Go.Proofs.YtpjjeeabpaojnaaGreatW.PrintWords Go.Proofs.YtpjjeeabpaojnaaGreatW.PrintLast Go.Proofs.YtpjjeeabpaojnaaGreatW.PrintMore
attribute [local go_sem] max2_int min2_int max_two min_two max_three min_three max_four min_four   -- for this text's walks alone
set_option linter.unusedVariables false
set_option linter.unusedSimpArgs false
def impl_Board_rowSets.l0:Nat→List Int→Int→Int→Option (List Int)
|0,_,_,_=>none
|k + 1,x3,x8,x9=>if x9 < x8 then (if x3.length < 17592186044416 then (impl_Board_rowSets.l0 k (x3 ++ [x9]) x8 (wrap64 (x9 + 1))) else (none)) else ((slices_SortFunc_int_int__at_impl_Board_rowSets_1.f x3).bind fun t108=>(some t108))
def impl_Board_rowSets.f (k:Nat) (a0_0:Int) (a0_1:Int) (l0_2:List Int):Option (List Int):=if 0≤a0_0 then (impl_Board_rowSets.l0 k (([]:List Int)) (shl .i64 1 a0_0) 0) else (none)
set_option maxHeartbeats 8000000 in
set_option maxRecDepth 100000 in
theorem impl_Board_rowSets.calls (k:Nat) (a0_0:Int) (a0_1:Int) (A0_2:Option Addr) (c0_2:Nat) (l0_2:List Int) (r:List Int) (w:World) (hr0_2:Kd.C (Kd.int .i64) w A0_2 l0_2.length l0_2) (hc0_2:l0_2.length≤c0_2) (h:impl_Board_rowSets.f k a0_0 a0_1 l0_2=some r) :
  Calls Tryz.prog 57 #[.agg #[.int .i64 a0_0,.int .i64 a0_1,.slice A0_2 l0_2.length c0_2]] w fun e w'=>∃ v0_:Value,e=.returned (v0_)∧Kd.R (Kd.int .i64) 3 w' w.heap.size (fun _=>True) v0_ r∧Below w.heap.size w w':=by
 have hu26:=Tryz.underlying26;have HR0_2:=za hr0_2;have HC0_2:=za hc0_2;clear hr0_2 hc0_2;have HB:=za (Below.refl w.heap.size w);have H:(if 0≤a0_0 then (impl_Board_rowSets.l0 k (([]:List Int)) (shl .i64 1 a0_0) 0) else (none))=some r:=h;clear h;obtain ⟨y102,hy102⟩:∃ y_:List Int,y_=(([]:List Int)):=⟨_,rfl⟩;(replace H:(if 0≤a0_0 then (impl_Board_rowSets.l0 k y102 (shl .i64 1 a0_0) 0) else (none))=some r:=by first|(rw [hy102];with_reducible exact H)|(have H2_:=(Option.bind_some _ _).symm.trans H;rw [hy102];with_reducible exact H2_)|(have H2_:=(Option.bind_some _ _).symm.trans H;with_reducible exact H2_)|with_reducible exact H|(rw [hy102];exact H)|exact H);have Ny102:=za hy102;clear hy102;by_cases c2:0≤a0_0
 ·
  rw [if_pos c2] at H;have c2b0:=eq_true c2;have c2b1:decide (0≤a0_0)=true:=decide_eq_true c2;clear c2;obtain ⟨ji3,hji3⟩:∃ j_:Int,(shl .i64 1 a0_0)=j_:=⟨_,rfl⟩;(replace H:(impl_Board_rowSets.l0 k y102 ji3 0)=some r:=by first|(rw [hji3] at H;exact H)|(simp only [hji3] at H ⊢;exact H));have hji3_:(IntKind.i64.wrap (1 * 2 ^ min a0_0.toNat 64))=ji3:=hji3;have hji3z:a0_0≤64→(IntKind.i64.wrap (1 * 2 ^ a0_0.toNat))=ji3:=shl_small hji3;(have hji3u:(IntKind.i64.wrap (2 ^ min a0_0.toNat 64))=ji3:=by have h_:=hji3_;rw [Int.one_mul] at h_;exact h_);(have hji3v:a0_0≤64→(IntKind.i64.wrap (2 ^ a0_0.toNat))=ji3:=fun hle_=>by have h_:=hji3z hle_;rw [Int.one_mul] at h_;exact h_);have hji3y:(wrap64 (1 * 2 ^ min a0_0.toNat 64))=ji3:=(i64_w _).symm.trans hji3_;(have hji3x:a0_0≤64→(wrap64 (1 * 2 ^ a0_0.toNat))=ji3:=fun h_=>(i64_w _).symm.trans (hji3z h_));have H':=za H;clear H;(go_enter Tryz.func57,Tryz.ntmps57);(go_wp2_with (first|((with_reducible refine zv (N:=1) rfl ?_);refine zw ?hg (N:=1) ?hd (cs:=#[.int .i64 a0_0,.int .i64 a0_1,.slice A0_2 l0_2.length c0_2]) (t:=26) ?hr ?_;(case hd=>rfl);(case hg=>rfl);(case hr=>first|(go_simp;done)|(go_simp;rfl));intro gb101 hg w4 hbox hb;have BK101:=za (hbox);have GW101:=za ((by rw [hg];exact (zi (by apply_rules only [HB.out,zc,zd,zb])):w.heap.size≤gb101));have GE101:=za ((by rw [hg];exact (zi (by apply_rules only [HB.out,zc,zd,zb])):w.heap.size≤gb101));replace HB:=za (zl (by apply_rules only [HB.out,zc,zd,zb]) hb);clear hb hbox hg)|((with_reducible refine zv (N:=5) rfl ?_);refine Kd.R_lit (Kd.int .i64) _ 3 ?hg (N:=5) ?hd (xs:=([]:List Int)) (inner:=[]) (ok:=fun _=>True) (okp:=fun _=>True) ?hr ?hp (fun _ hk=>hk) trivial (Below.refl _ _) (Nat.le_refl _) (by simp) ?_;(case hd=>rfl);(case hg=>rfl);(case hr=>first|(go_simp;done)|(go_simp;rfl));(case hp=>exact (Reps.none _ _));intro v103 w5 ho6 hb hg_ hnew_;clear hg_ hnew_;(first|rw [← Ny102.out] at ho6|(simp only [Int.reduceToNat] at ho6;rw [← Ny102.out] at ho6));have HO104:=za (Kd.R_lower ho6 (zi (by apply_rules only [HB.out,zc,zd,zb,zg,GE101.out])));replace BK101:=za (zp (g:=gb101) (o:=.cells #[.int .i64 a0_0,.int .i64 a0_1,.slice A0_2 l0_2.length c0_2] 26 (0,0)) (by apply_rules only [BK101.out,zj,zh,zk]) hb);replace HB:=za (zl (by apply_rules only [HB.out,zc,zd,zb,zg,GE101.out]) hb);clear hb ho6;have hcz7_0:w5.cell? ⟨gb101,0,none⟩=some (.int .i64 a0_0):=(ze BK101.out 0).trans rfl;have hcz7_1:w5.cell? ⟨gb101,1,none⟩=some (.int .i64 a0_1):=(ze BK101.out 1).trans rfl;have hcz7_2:w5.cell? ⟨gb101,2,none⟩=some (.slice A0_2 l0_2.length c0_2):=(ze BK101.out 2).trans rfl;have hfz7_0:=zf BK101.out 0;have hfz7_1:=zf BK101.out 1;have hfz7_2:=zf BK101.out 2)));(go_loopg [3,9] k (fun kq v3 v9 w'=>∃ (x3_1:List Int) (x9_1:Int),v9=.int .i64 x9_1∧Aside0 (impl_Board_rowSets.l0 kq x3_1 ji3 x9_1=some r)∧Aside0 (kq≤k)∧Aside0 (Kd.R (Kd.int .i64) 3 w' w.heap.size (fun _=>True) v3 x3_1)∧Aside0 (w'.heap[gb101]?=some (.cells #[.int .i64 a0_0,.int .i64 a0_1,(.slice A0_2 l0_2.length c0_2)] 26 (0,0)))∧Aside0 (Below w.heap.size w w')));case atStart=>exact ⟨(y102),(0),(by first|rfl|(simp;done)|(simp [*];done)),H',⟨Nat.le_refl _⟩,⟨by apply_rules only [HO104.out,zs,zt,zr]⟩,⟨by apply_rules only [BK101.out,zj,zh,zk]⟩,⟨by apply_rules only [HB.out,zc,zd,zb,zg,GE101.out]⟩⟩
  case round =>
   clear H';(try clear c2);(try clear c2b0);(try clear c2b1);(try clear p2);(try clear c5);(try clear p6);(try clear hcz7_0);(try clear hcz7_1);(try clear hcz7_2);(try clear hfz7_0);(try clear hfz7_1);(try clear hfz7_2);obtain ⟨x3_1,x9_1,rfl,HA,HK1,HO_3,BK101,HB⟩:=hrel
   cases gk with
  |zero=>exact absurd HA.out (by simp [impl_Board_rowSets.l0])
  |succ k1 =>
    have H:=HA.out;clear HA;simp only [impl_Board_rowSets.l0] at H;by_cases c8:x9_1 < ji3
    ·
     rw [if_pos c8] at H;have c8b0:decide (x9_1 < ji3)=true:=decide_eq_true c8;clear c8;by_cases c9:x3_1.length < 17592186044416
     · rw [if_pos c9] at H;have LMc9:=za c9;clear c9;obtain ⟨y105,hy105⟩:∃ y_:List Int,y_=(x3_1 ++ [x9_1]):=⟨_,rfl⟩;(replace H:(impl_Board_rowSets.l0 k1 y105 ji3 (wrap64 (x9_1 + 1)))=some r:=by first|(rw [hy105];with_reducible exact H)|(have H2_:=(Option.bind_some _ _).symm.trans H;rw [hy105];with_reducible exact H2_)|(have H2_:=(Option.bind_some _ _).symm.trans H;with_reducible exact H2_)|with_reducible exact H|(rw [hy105];exact H)|exact H);have Ny105:=za hy105;clear hy105;have H':=za H;clear H;(go_wp2_with (first|((with_reducible refine gate_builtin (b:=.append) (xs:=#[.tmp 12,.tmp 14]) rfl ?_);at_builtin;refine Kd.R_append (Kd.int .i64) (w0:=w) w.heap.size rfl (.tmp 12) (.tmp 14) 24 3 (.int .i64 0) 8 rfl Tryz.underlying24 info3 rfl (by decide) (by omega) u3 x3_1 x9_1 [.int .i64 x9_1] (fun _=>True) (fun _=>False) rfl rfl ?aP (fun _ hk=>hk.elim) ?aF ?aO ?aB ?aS ?aL ?_;(case aP=>exact rfl);(case aB=>exact (by apply_rules only [HB.out,zc,zd,zb,zg,GE101.out]));(case aF=>exact (fun _ _=>trivial));(case aO=>exact (by apply_rules only [HO_3.out,zs,zt,zr]));(case aS=>exact (zi (by apply_rules only [HB.out,zc,zd,zb,zg,GE101.out])));(case aL=>have:=LMc9.out;omega);intro v106 w10 ho hb hg hat;rw [← Ny105.out] at ho;replace BK101:=za (blk_grown (g:=gb101) (o:=.cells #[.int .i64 a0_0,.int .i64 a0_1,.slice A0_2 l0_2.length c0_2] 26 (0,0)) (by apply_rules only [BK101.out,zj,zh,zk]) hg (Kd.R_ne HO_3.out BK101.out (by decide)));replace HB:=za (hb);have HO107:=za (ho);clear HO_3;clear ho hb hg hat)));(go_roundg k1);(case measure=>have:=HK1.out;omega);case rel=>exact ⟨(y105),(wrap64 (x9_1 + 1)),(by first|rfl|(simp;done)|(simp [*];done)),H',⟨by have:=HK1.out;omega⟩,⟨by apply_rules only [HO107.out,zs,zt,zr]⟩,⟨by apply_rules only [BK101.out,zj,zh,zk]⟩,⟨by apply_rules only [HB.out,zc,zd,zb,zg,GE101.out]⟩⟩
     · rw [if_neg c9] at H;exact absurd H (by simp)
    · rw [if_neg c8] at H;have c8b0:decide (x9_1 < ji3)=false:=decide_eq_false c8;clear c8;obtain ⟨t108,A11,H⟩:=bindAside H;(try dsimp only at H);obtain rfl:=Option.some.inj H;obtain ⟨Ao12,co12,eo12⟩:=Kd.R_slice HO_3.out;subst eo12;(go_wp2_with (first|((with_reducible refine zu (f:=80) rfl ?_);refine goesL_ (some 18) rfl rfl Tryz.func80 (by kernel_rfl) rfl #[.slice Ao12 x3_1.length co12,.func (.func 81) #[] #[]] rfl (by first|rfl|simp only [z3_,z4_,z5_];try rfl) ?_;(with_reducible refine (slices_SortFunc_int_int__at_impl_Board_rowSets_1.calls (fun k_=>some k_=(.slice Ao12 x3_1.length co12:Value).ownBlock) (.slice Ao12 x3_1.length co12) x3_1  t108 w _ ?side1 ?side2 A11.out).mono ?_);(case side1=>apply_rules only [HB.out,zc,zd,zb,zg,GE101.out]);(case side2=>exact Kd.R_tight rfl HO_3.out);rintro e w13 ⟨rfl,hy0,hb,hkp⟩;refine ⟨_,rfl,?_⟩;replace BK101:=za (blk_kept (by apply_rules only [BK101.out,zj,zh,zk]) hkp (fun hs_=>(fun e_=>(Kd.R_ne HO_3.out BK101.out (by decide)) e_) hs_));replace HO_3:=za (Kd.R_reok rfl hy0 (fun k_ e_=>HO_3.out.1 k_ e_));replace HB:=za (hb);(try clear hb);(try clear hkp);(try clear hy0))));(go_ret);exact ⟨_,by first|rfl|(simp [errW_none,errW_some] <;> rfl)|(simp only [← hji3];first|rfl|(simp [errW_none,errW_some] <;> rfl))|(simp [*,errW_none,errW_some] <;> rfl),by apply_rules only [HO_3.out,zs,zt,zr],by apply_rules only [HB.out,zc,zd,zb,zg,GE101.out]⟩
 · rw [if_neg c2] at H;exact absurd H (by simp)
end Go.Proofs.YtpjjeeabpaojnaaGreat.Q
end
section
namespace Go.Proofs.YtpjjeeabpaojnaaGreat.RowSetsK
set_option linter.unusedVariables false
open Go.RowKit Go.Proofs Go.Sort Go.Proofs.YtpjjeeabpaojnaaGreat.Q Go.Proofs.YtpjjeeabpaojnaaGreatW.PrintWords Go.Proofs.YtpjjeeabpaojnaaGreatW.PrintLast Go.Proofs.YtpjjeeabpaojnaaGreatW.PrintMore
open Go.Proofs.YtpjjeeabpaojnaaGreatL Go.Proofs.YtpjjeeabpaojnaaGreat.LawK Go.Proofs.YtpjjeeabpaojnaaGreat.BoardK Go.Proofs.YtpjjeeabpaojnaaGreat.LinesK Go.Proofs.YtpjjeeabpaojnaaGreat.SortM
def setsM (R:Nat):List Nat:=fullM.filter (fun m=>decide (m < 2 ^ R))
theorem setsM_lt:∀ R:Fin 7,∀ m ∈ setsM R.val,m < 64∧m < 2 ^ R.val:=by decide +kernel
theorem setsM_pair:∀ R:Fin 7,List.Pairwise (fun x y=>rankM x < rankM y) (setsM R.val):=by decide +kernel
theorem iota_all:∀ R:Fin 7,(iota 0 (2 ^ R.val)).all isMask=true:=by decide +kernel
theorem setsM_perm:∀ R:Fin 7,List.Perm ((iota 0 (2 ^ R.val)).map toF) ((setsM R.val).map fun (m:Nat)=>toF (m:Int)):=by decide +kernel
theorem toF_nat {m:Nat} (h:m < 64):(toF (m:Int)).val=m:=by unfold toF;simp only [];omega
theorem sorted_all {R:Nat} (hR:R≤6):sortedM (iota 0 (2 ^ R))=(setsM R).map fun (m:Nat)=>(m:Int):=by
 have hp:=setsM_perm ⟨R,by omega⟩
 have hq:=setsM_pair ⟨R,by omega⟩
 have hl:=setsM_lt ⟨R,by omega⟩
 simp only [] at hp hq hl
 have e:((iota 0 (2 ^ R)).map toF).mergeSort (fun x y=>!(ltOf cfM) y x)=(setsM R).map fun (m:Nat)=>toF (m:Int):=by
  refine List.Perm.eq_of_pairwise (le:=fun x y=>(!(ltOf cfM) y x)=true) ?_ ?_ ?_ ((List.mergeSort_perm _ _).trans hp)
  ·
   intro a b _ _ h1 h2
   exact totM a b (by simpa using h2) (by simpa using h1)
  ·
   refine List.pairwise_mergeSort ?_ ?_ _
   ·
    intro a b c h1 h2
    rw [ltM] at *
    simp at *
    omega
   ·
    intro a b
    rw [ltM,ltM]
    simp
    omega
  ·
   rw [List.pairwise_map]
   refine List.Pairwise.imp_of_mem ?_ hq
   intro a b ha hb h
   rw [ltM,toF_nat (hl a ha).1,toF_nat (hl b hb).1]
   simp
   omega
 unfold sortedM
 rw [e,List.map_map]
 apply List.map_congr_left
 intro m hm
 show ((toF (m:Int)).val:Int)=m
 rw [toF_nat (hl m hm).1]
theorem rowSets_l0 (X:List Int) (n:Nat) (hn:n≤64) (hX:slices_SortFunc_int_int__at_impl_Board_rowSets_1.f (iota 0 n)=some X):∀ (d i:Nat),i + d=n→Ev (fun k=>impl_Board_rowSets.l0 k (iota 0 i) (n:Int) i) X
|0,i,hi=>by
  refine Ev.step (f:=fun _=>some X) (fun k=>?_) (Ev.now _)
  rw [impl_Board_rowSets.l0,if_neg (by omega),show i=n by omega,hX];rfl
|d + 1,i,hi=>by
  have w1:wrap64 ((i:Int) + 1)=((i + 1:Nat):Int):=by rw [w64 (by omega) (by omega)];rfl
  have ih:=rowSets_l0 X n hn hX d (i + 1) (by omega)
  rw [iota_snoc,Int.zero_add] at ih
  refine Ev.step (fun k=>?_) ih
  rw [impl_Board_rowSets.l0,if_pos (by omega),if_pos (by rw [iota_length];omega),w1]
theorem rowSets {R:Nat} (hR:R≤6) (c:Int) (l:List Int):Ev (fun k=>impl_Board_rowSets.f k R c l) ((setsM R).map fun (m:Nat)=>(m:Int)):=by
 have hp:2 ^ R≤2 ^ 6:=Nat.pow_le_pow_right (by decide) hR
 have hp1:1≤2 ^ R:=Nat.one_le_two_pow
 unfold impl_Board_rowSets.f
 have h:=rowSets_l0 (sortedM (iota 0 (2 ^ R))) (2 ^ R) (by omega) (by
  unfold slices_SortFunc_int_int__at_impl_Board_rowSets_1.f
  rw [if_pos ⟨iota_all ⟨R,by omega⟩,by rw [iota_length];omega,by rw [iota_length];omega⟩]) (2 ^ R) 0 (by omega)
 rw [sorted_all hR] at h
 refine Ev.congr (fun k=>?_) h
 rw [if_pos (by omega),shl_one R (by omega)]
 rfl
theorem lcSets_all:∀ R:Fin 7,spec_lcSets.f 40 (R.val:Int)=some ((setsM R.val).map listM):=by decide +kernel
theorem lcSets {R:Nat} (hR:R≤6):Ev (fun k=>spec_lcSets.f k R) ((setsM R).map listM):=Ev.of (fun k=>spec_lcSets.mono _ k) (lcSets_all ⟨R,by omega⟩)
theorem count {m:Nat} (hm:m < 64):impl_count.f (m:Int)=some ((listM m).length:Int):=count_all ⟨m,hm⟩
end Go.Proofs.YtpjjeeabpaojnaaGreat.RowSetsK
end
section
namespace Go.Proofs.YtpjjeeabpaojnaaGreat.CoversK
set_option linter.unusedVariables false
open Go.RowKit Go.Proofs.YtpjjeeabpaojnaaGreat.Q Go.Proofs.YtpjjeeabpaojnaaGreatW.PrintWords Go.Proofs.YtpjjeeabpaojnaaGreatW.PrintLast Go.Proofs.YtpjjeeabpaojnaaGreatW.PrintMore
open Go.Proofs.YtpjjeeabpaojnaaGreatL Go.Proofs.YtpjjeeabpaojnaaGreat.LawK Go.Proofs.YtpjjeeabpaojnaaGreat.BoardK Go.Proofs.YtpjjeeabpaojnaaGreat.LinesK Go.Proofs.YtpjjeeabpaojnaaGreat.SortM Go.Proofs.YtpjjeeabpaojnaaGreat.RowSetsK Go.Proofs.YtpjjeeabpaojnaaGreat.Koenig Go.Proofs.YtpjjeeabpaojnaaGreat.MostK
set_option maxRecDepth 20000 in
theorem andNot_all:∀ a b:Fin 64,Go.bits .andNot .i64 (a.val:Int) (b.val:Int)=((a.val &&& (63 ^^^ b.val):Nat):Int):=by decide +kernel
theorem andNot {a b:Nat} (ha:a < 64) (hb:b < 64):Go.bits .andNot .i64 (a:Int) (b:Int)=((a &&& (63 ^^^ b):Nat):Int):=andNot_all ⟨a,ha⟩ ⟨b,hb⟩
def comp (R m:Nat):Nat:=(2 ^ R - 1) &&& (63 ^^^ m)
theorem comp_lt {R m:Nat}:comp R m < 2 ^ R:=by
 unfold comp
 have:=Nat.two_pow_pos R
 exact Nat.lt_of_le_of_lt Nat.and_le_left (by omega)
set_option maxRecDepth 20000 in
theorem comp_all:∀ R:Fin 7,∀ m:Fin 64,∀ i:Fin 6,(comp R.val m.val).testBit i.val=(decide (i.val < R.val) && !m.val.testBit i.val):=by decide +kernel
theorem comp_bit {R m:Nat} (hR:R≤6) (hm:m < 64) {i:Nat} (hi:i < 6):(comp R m).testBit i=(decide (i < R) && !m.testBit i):=comp_all ⟨R,by omega⟩ ⟨m,hm⟩ ⟨i,hi⟩
theorem bit_lt {m R i:Nat} (h:m < 2 ^ R) (hi:m.testBit i=true):i < R:=by
 by_cases hlt:i < R
 ·
  exact hlt
 ·
  rw [Nat.testBit_lt_two_pow (Nat.lt_of_lt_of_le h (Nat.pow_le_pow_right (by decide) (by omega)))] at hi;cases hi
def colM (l:List Int) (R m:Nat):Nat:=orM l (listM (comp R m))
def nM (l:List Int) (R m:Nat):Nat:=(listM m).length + (listM (colM l R m)).length
def cov (l:List Int) (R m:Nat):S37:=⟨listM m,listM (colM l R m)⟩
def stepC (l:List Int) (R:Nat) (st:Nat × List S37) (m:Nat):Nat × List S37 :=
 if nM l R m < st.1 then (nM l R m,[cov l R m]) else if nM l R m=st.1 then (st.1,st.2 ++ [cov l R m]) else st
theorem fold_covers (l:List Int) (R v:Nat):∀ (S:List Nat) (a:Nat) (out:List S37),v≤a→(∀ m ∈ S,v≤nM l R m)→(v=a ∨ ∃ m ∈ S,nM l R m=v) →
  (S.foldl (stepC l R) (a,out)).2=(if v=a then out else []) ++ (S.filter (fun m=>decide (nM l R m=v))).map (cov l R)
|[],a,out,h1,h2,h3=>by
  have:v=a:=by
   rcases h3 with h|⟨m,hm,_⟩
   ·
    exact h
   ·
    cases hm
  rw [if_pos this];simp
|m :: t,a,out,h1,h2,h3=>by
  have hm:=h2 m (by simp)
  have ht:∀ x ∈ t,v≤nM l R x:=fun x hx=>h2 x (by simp [hx])
  rw [List.foldl_cons,List.filter_cons]
  by_cases c1:nM l R m < a
  ·
   have e:stepC l R (a,out) m=(nM l R m,[cov l R m]):=by unfold stepC;rw [if_pos c1]
   rw [e,fold_covers l R v t (nM l R m) [cov l R m] hm ht ?_,if_neg (show ¬ v=a by omega)]
   ·
    by_cases c2:v=nM l R m
    ·
     rw [if_pos c2,if_pos (decide_eq_true c2.symm)];simp
    ·
     rw [if_neg c2,if_neg (by simp;omega)]
   ·
    rcases h3 with h|⟨x,hx,he⟩
    ·
     omega
    ·
     rcases List.mem_cons.1 hx with rfl|hx
     ·
      exact .inl he.symm
     ·
      exact .inr ⟨x,hx,he⟩
  ·
   by_cases c2:nM l R m=a
   ·
    have e:stepC l R (a,out) m=(a,out ++ [cov l R m]):=by unfold stepC;rw [if_neg c1,if_pos c2]
    rw [e,fold_covers l R v t a _ h1 ht ?_]
    ·
     by_cases c3:v=a
     ·
      rw [if_pos c3,if_pos c3,if_pos (decide_eq_true (by omega))];simp
     ·
      rw [if_neg c3,if_neg c3,if_neg (by simp;omega)]
    ·
     rcases h3 with h|⟨x,hx,he⟩
     ·
      exact .inl h
     ·
      rcases List.mem_cons.1 hx with rfl|hx
      ·
       exact .inl (by omega)
      ·
       exact .inr ⟨x,hx,he⟩
   ·
    have e:stepC l R (a,out) m=(a,out):=by unfold stepC;rw [if_neg c1,if_neg c2]
    have hne:¬ decide (nM l R m=v)=true:=by
     rw [decide_eq_true_eq];omega
    have h4:v=a ∨ ∃ m ∈ t,nM l R m=v:=by
     rcases h3 with h|⟨x,hx,he⟩
     ·
      exact .inl h
     ·
      rcases List.mem_cons.1 hx with rfl|hx
      ·
       omega
      ·
       exact .inr ⟨x,hx,he⟩
    rw [e,fold_covers l R v t a out h1 ht h4,if_neg hne]
set_option maxRecDepth 20000 in
theorem cnt_all:∀ m:Fin 64,(listM m.val).length=cnt (fun i=>m.val.testBit i):=by decide +kernel
theorem cell_far {l:List Int} {r c:Nat} (h:l.length≤r):cell l r c=false:=by
 unfold cell
 rw [gD_ge _ _ h]
 simp
theorem colM_lt {l:List Int} {R C m:Nat} (hC:C≤6) (hb:∀ i (hi:i < l.length),0≤l[i]∧l[i] < 2 ^ C):colM l R m < 64:=by
 have h2:colM l R m < 2 ^ C:=orFrom_lt hb _ 0 (Nat.two_pow_pos C)
 have hp:2 ^ C≤2 ^ 6:=Nat.pow_le_pow_right (by decide) hC
 omega
theorem nM_kap {l:List Int} {R C m:Nat} (hlR:l.length=R) (hR:R≤6) (hC:C≤6) (hb:∀ i (hi:i < l.length),0≤l[i]∧l[i] < 2 ^ C) (hm:m < 64):nM l R m=kap (cell l) (fun r=>!m.testBit r):=by
 unfold nM kap
 rw [cnt_all ⟨m,hm⟩,cnt_all ⟨colM l R m,colM_lt hC hb⟩]
 congr 1
 ·
  refine cnt_congr fun x _=>?_
  simp
 ·
  refine cnt_congr fun c hc=>?_
  show (orM l (listM (comp R m))).testBit c=_
  rw [orM_bit,Bool.eq_iff_iff,List.any_eq_true,nb_iff]
  constructor
  ·
   rintro ⟨x,hx,h⟩
   obtain ⟨h1,h2,h3⟩:=mem_listM.1 hx
   rw [comp_bit hR hm (by omega),Bool.and_eq_true] at h3
   exact ⟨x.toNat,by omega,h3.2,h⟩
  ·
   rintro ⟨r,h1,h2,h3⟩
   have hr:r < R:=by
    by_cases hr:r < R
    ·
     exact hr
    ·
     rw [cell_far (by omega)] at h3;cases h3
   refine ⟨(r:Int),mem_listM.2 ⟨by omega,by omega,?_⟩,by rw [Int.toNat_natCast];exact h3⟩
   rw [Int.toNat_natCast,comp_bit hR hm h1,h2,decide_eq_true hr]
   rfl
theorem mask_of (p:Nat→Bool):∀ n,∃ m,m < 2 ^ n∧∀ r,m.testBit r=(decide (r < n) && p r)
|0=>⟨0,by decide,fun r=>by simp⟩
|n + 1=>by
  obtain ⟨m,h1,h2⟩:=mask_of p n
  by_cases hp:p n=true
  ·
   refine ⟨m ||| 2 ^ n,Nat.or_lt_two_pow (Nat.lt_of_lt_of_le h1 (Nat.pow_le_pow_right (by decide) (by omega))) (Nat.pow_lt_pow_right (by decide) (by omega)),fun r=>?_⟩
   rw [Nat.testBit_or,h2,Nat.testBit_two_pow]
   by_cases e:r=n
   ·
    subst e;simp [hp]
   ·
    by_cases h:r < n
    ·
     simp [h,show r < n + 1 by omega,show ¬ n=r by omega]
    ·
     simp [h,show ¬ r < n + 1 by omega,show ¬ n=r by omega]
  ·
   refine ⟨m,Nat.lt_of_lt_of_le h1 (Nat.pow_le_pow_right (by decide) (by omega)),fun r=>?_⟩
   rw [h2]
   by_cases e:r=n
   ·
    subst e;simp at hp;simp [hp]
   ·
    by_cases h:r < n
    ·
     simp [h,show r < n + 1 by omega]
    ·
     simp [h,show ¬ r < n + 1 by omega]
set_option maxRecDepth 20000 in
theorem setsM_all:∀ R:Fin 7,∀ m:Fin 64,m.val < 2 ^ R.val→m.val ∈ setsM R.val:=by decide +kernel
theorem nM_min {l:List Int} {R C:Nat} (hlR:l.length=R) (hR:R≤6) (hC:C≤6) (hb:∀ i (hi:i < l.length),0≤l[i]∧l[i] < 2 ^ C):(∃ m ∈ setsM R,nM l R m=mostN l C R 0 0)∧∀ m ∈ setsM R,mostN l C R 0 0≤nM l R m:=by
 obtain ⟨⟨S,hS⟩,hmin⟩:=most_min hlR hR hC hb
 have hlt:=setsM_lt ⟨R,by omega⟩
 refine ⟨?_,fun m hm=>by rw [nM_kap hlR hR hC hb (hlt m hm).1];exact hmin _⟩
 obtain ⟨m,h1,h2⟩:=mask_of (fun r=>!S r) R
 have hp:2 ^ R≤2 ^ 6:=Nat.pow_le_pow_right (by decide) hR
 refine ⟨m,setsM_all ⟨R,by omega⟩ ⟨m,by omega⟩ h1,?_⟩
 rw [nM_kap hlR hR hC hb (by omega)]
 refine Nat.le_antisymm ?_ (hmin _)
 rw [← hS]
 unfold kap
 have e1:nb (cell l) (fun r=>!m.testBit r)=nb (cell l) S:=by
  funext c
  rw [Bool.eq_iff_iff,nb_iff,nb_iff]
  constructor
  ·
   rintro ⟨r,g1,g2,g3⟩
   have hr:r < R:=by
    by_cases hr:r < R
    ·
     exact hr
    ·
     rw [cell_far (by omega)] at g3;cases g3
   refine ⟨r,g1,?_,g3⟩
   rw [h2,decide_eq_true hr] at g2
   simpa using g2
  ·
   rintro ⟨r,g1,g2,g3⟩
   refine ⟨r,g1,?_,g3⟩
   rw [h2,g2]
   simp
 rw [e1]
 refine Nat.add_le_add_right (cnt_mono fun x hx h=>?_) _
 have h':(!(!m.testBit x))=true:=h
 rw [h2] at h'
 simp at h'
 simp [h'.2]
end Go.Proofs.YtpjjeeabpaojnaaGreat.CoversK
end
section
namespace Go.Proofs.YtpjjeeabpaojnaaGreat.Q
open Go.RowKit Go.Proofs.YtpjjeeabpaojnaaGreatW.PrintWords Go.Proofs.YtpjjeeabpaojnaaGreatW.PrintLast Go.Proofs.YtpjjeeabpaojnaaGreatW.PrintMore
attribute [local go_sem] max2_int min2_int max_two min_two max_three min_three max_four min_four   -- for this text's walks alone
set_option linter.unusedVariables false
set_option linter.unusedSimpArgs false
mutual
def impl_Board_covers.l0:Nat→Int→List (S37)→List Int→Int→Int→Int→Int→List Int→Option ((List (S37)))
|0,_,_,_,_,_,_,_,_=>none
|k + 1,x3,x4,x11,x12,x13,x102000,x102001,x102002=>if x13 < x12 then (if 0≤x13 then (if x13 < (x11.length:Int) then (if 0≤x102000 then ((impl_Board_columns.f k x102000 x102001 x102002 (Go.bits .andNot .i64 (wrap64 ((shl .i64 1 x102000) - 1)) (rd x11 x13))).bind fun t109=>((impl_count.f (rd x11 x13)).bind fun t110=>((impl_count.f t109).bind fun t111=>(if (wrap64 (t110 + t111)) < x3 then (impl_Board_covers.j1 k (wrap64 (t110 + t111)) ([]:List (S37)) (rd x11 x13) t109 (wrap64 (t110 + t111)) x11 x12 x13 x102000 x102001 x102002) else (impl_Board_covers.j1 k x3 x4 (rd x11 x13) t109 (wrap64 (t110 + t111)) x11 x12 x13 x102000 x102001 x102002))))) else (none)) else (none)) else (none)) else (some x4)
def impl_Board_covers.j1:Nat→Int→List (S37)→Int→Int→Int→List Int→Int→Int→Int→Int→List Int→Option ((List (S37)))
|0,_,_,_,_,_,_,_,_,_,_,_=>none
|k + 1,x3,x4,x6,x7,x8,x11,x12,x13,x102000,x102001,x102002=>if x8=x3 then ((impl_listOf.f k x6).bind fun t112=>((impl_listOf.f k x7).bind fun t115=>(if x4.length < 2932031007402 then (impl_Board_covers.l0 k x3 (x4 ++ [(⟨t112,t115⟩:S37)]) x11 x12 (wrap64 (x13 + 1)) x102000 x102001 x102002) else (none)))) else (impl_Board_covers.l0 k x3 x4 x11 x12 (wrap64 (x13 + 1)) x102000 x102001 x102002)
end
def impl_Board_covers.f (k:Nat) (a0_0:Int) (a0_1:Int) (l0_2:List Int):Option ((List (S37))):=(impl_Board_rowSets.f k a0_0 a0_1 l0_2).bind fun t105=>(impl_Board_covers.l0 k 12 (([]:List (S37))) t105 (t105.length:Int) 0 a0_0 a0_1 l0_2)
def impl_Board_covers.T5:Bool × List (List Nat × List Nat):=(true,[([],[]),([],[]),([1],[1]),([2],[2]),([3],[3]),([],[]),([4,5],[4,5]),([0,6],[0,6]),([7,7,0,1,2,3,4,5,6,7],[7])])
def impl_Board_covers.B5:List Nat:=[0,0,2,6,14,0,62,127,255]
theorem impl_Board_covers.tab5:rtab .any (opsOf Tryz.f29 5)=impl_Board_covers.T5:=by kernel_rfl
theorem impl_Board_covers.bits5:waitsOk impl_Board_covers.T5.2 impl_Board_covers.B5=true:=by kernel_rfl
set_option maxHeartbeats 8000000 in
set_option maxRecDepth 100000 in
theorem impl_Board_covers.calls (k:Nat) (a0_0:Int) (a0_1:Int) (A0_2:Option Addr) (c0_2:Nat) (l0_2:List Int) (r:List (S37)) (w:World) (hr0_2:Kd.C (Kd.int .i64) w A0_2 l0_2.length l0_2) (hc0_2:l0_2.length≤c0_2) (h:impl_Board_covers.f k a0_0 a0_1 l0_2=some r) :
  Calls Tryz.prog 29 #[.agg #[.int .i64 a0_0,.int .i64 a0_1,.slice A0_2 l0_2.length c0_2]] w fun e w'=>∃ v0_:Value,e=.returned (v0_)∧Kd.S k37 37 w' w.heap.size (fun _=>True) v0_ r∧Below w.heap.size w w':=by
 have hu26:=Tryz.underlying26;have hu37:=Tryz.underlying37;have HR0_2:=za hr0_2;have HC0_2:=za hc0_2;clear hr0_2 hc0_2;have HB:=za (Below.refl w.heap.size w);have H:((impl_Board_rowSets.f k a0_0 a0_1 l0_2).bind fun t105=>(impl_Board_covers.l0 k 12 (([]:List (S37))) t105 (t105.length:Int) 0 a0_0 a0_1 l0_2))=some r:=h;clear h;obtain ⟨y102,hy102⟩:∃ y_:List (S37),y_=(([]:List (S37))):=⟨_,rfl⟩;(replace H:((impl_Board_rowSets.f k a0_0 a0_1 l0_2).bind fun t105=>(impl_Board_covers.l0 k 12 y102 t105 (t105.length:Int) 0 a0_0 a0_1 l0_2))=some r:=by first|(rw [hy102];with_reducible exact H)|(have H2_:=(Option.bind_some _ _).symm.trans H;rw [hy102];with_reducible exact H2_)|(have H2_:=(Option.bind_some _ _).symm.trans H;with_reducible exact H2_)|with_reducible exact H|(rw [hy102];exact H)|exact H);have Ny102:=za hy102;clear hy102;obtain ⟨t105,A2,H⟩:=bindAside H;(try dsimp only at H);have H':=za H;clear H;(go_enter Tryz.func29,Tryz.ntmps29);(go_wp2_with (first|((with_reducible refine zv (N:=1) rfl ?_);refine zw ?hg (N:=1) ?hd (cs:=#[.int .i64 a0_0,.int .i64 a0_1,.slice A0_2 l0_2.length c0_2]) (t:=26) ?hr ?_;(case hd=>rfl);(case hg=>rfl);(case hr=>first|(go_simp;done)|(go_simp;rfl));intro gb101 hg w3 hbox hb;have BK101:=za (hbox);have GW101:=za ((by rw [hg];exact (zi (by apply_rules only [HB.out,zc,zd,zb])):w.heap.size≤gb101));have GE101:=za ((by rw [hg];exact (zi (by apply_rules only [HB.out,zc,zd,zb])):w.heap.size≤gb101));replace HB:=za (zl (by apply_rules only [HB.out,zc,zd,zb]) hb);clear hb hbox hg)|((with_reducible refine zv (N:=9) rfl ?_);refine Kd.S_lit k37 _ 37 ?hg (N:=9) ?hd (xs:=([]:List (S37))) (inner:=[]) (ok:=fun _=>True) (okp:=fun _=>True) ?hr ?hp (fun _ hk=>hk) trivial (Below.refl _ _) (Nat.le_refl _) (by simp) ?_;(case hd=>rfl);(case hg=>rfl);(case hr=>first|(go_simp;done)|(go_simp;rfl));(case hp=>exact (Reps.none _ _));intro v103 w4 ho5 hb hg_ hnew_;clear hg_ hnew_;(first|rw [← Ny102.out] at ho5|(simp only [Int.reduceToNat] at ho5;rw [← Ny102.out] at ho5));have HO104:=za (Kd.S_lower ho5 (zi (by apply_rules only [HB.out,zc,zd,zb,zg,GE101.out])));replace BK101:=za (zp (g:=gb101) (o:=.cells #[.int .i64 a0_0,.int .i64 a0_1,.slice A0_2 l0_2.length c0_2] 26 (0,0)) (by apply_rules only [BK101.out,zj,zh,zk]) hb);replace HB:=za (zl (by apply_rules only [HB.out,zc,zd,zb,zg,GE101.out]) hb);clear hb ho5;have hcz6_0:w4.cell? ⟨gb101,0,none⟩=some (.int .i64 a0_0):=(ze BK101.out 0).trans rfl;have hcz6_1:w4.cell? ⟨gb101,1,none⟩=some (.int .i64 a0_1):=(ze BK101.out 1).trans rfl;have hcz6_2:w4.cell? ⟨gb101,2,none⟩=some (.slice A0_2 l0_2.length c0_2):=(ze BK101.out 2).trans rfl;have hfz6_0:=zf BK101.out 0;have hfz6_1:=zf BK101.out 1;have hfz6_2:=zf BK101.out 2)|((with_reducible refine zu (f:=57) rfl ?_);refine goesL_ (some 11) rfl rfl Tryz.func57 (by kernel_rfl) rfl #[.agg #[.int .i64 a0_0,.int .i64 a0_1,.slice A0_2 l0_2.length c0_2]] rfl (by first|rfl|simp only [z3_,z4_,z5_];try rfl) ?_;(with_reducible refine (impl_Board_rowSets.calls k a0_0 a0_1 _ _ l0_2 t105 _ ?side1 ?side2 A2.out).mono ?_);(case side1=>apply_rules only [zq HR0_2.out HB.out,zm,zn,zo]);(case side2=>exact HC0_2.out);rintro e w7 ⟨v106,rfl,ho0,hb⟩;refine ⟨_,rfl,?_⟩;replace HO104:=za (Kd.S_elder' (by apply_rules only [HO104.out,Kd.S_alloc,Kd.S_drewN,Kd.S_drew]) (Kd.R_base ho0) hb);have HO107:=za (Kd.R_lower ho0 (zi (by apply_rules only [HB.out,zc,zd,zb,zg,GE101.out])));replace BK101:=za (zp (g:=gb101) (o:=.cells #[.int .i64 a0_0,.int .i64 a0_1,.slice A0_2 l0_2.length c0_2] 26 (0,0)) (by apply_rules only [BK101.out,zj,zh,zk]) hb);replace HB:=za (zl (by apply_rules only [HB.out,zc,zd,zb,zg,GE101.out]) hb);obtain ⟨Ao8,co8,eo8⟩:=Kd.R_slice HO107.out;subst eo8)));(go_loopg [3,4,13] k (fun kq v3 v4 v13 w'=>∃ (x3_1:Int) (x4_1:List (S37)) (x13_1:Int),v3=.int .i64 x3_1∧v13=.int .i64 x13_1∧Aside0 (impl_Board_covers.l0 kq x3_1 x4_1 t105 (t105.length:Int) x13_1 a0_0 a0_1 l0_2=some r)∧Aside0 (kq≤k)∧Aside0 (Kd.S k37 37 w' w.heap.size (fun k_=>some k_ ≠ ((.slice Ao8 t105.length co8):Value).ownBlock) v4 x4_1)∧Aside0 (Kd.R (Kd.int .i64) 3 w' w.heap.size (fun _=>True) (.slice Ao8 t105.length co8) t105)∧Aside0 (w'.heap[gb101]?=some (.cells #[.int .i64 a0_0,.int .i64 a0_1,(.slice A0_2 l0_2.length c0_2)] 26 (0,0)))∧Aside0 (Below w.heap.size w w')));case atStart=>exact ⟨(12),(y102),(0),(by first|rfl|(simp;done)|(simp [*];done)),(by first|rfl|(simp;done)|(simp [*];done)),H',⟨Nat.le_refl _⟩,⟨by (with_reducible repeat (first|apply Kd.S_alloc|apply Kd.S_drewN|apply Kd.S_drew));exact Kd.S_mono HO104.out (fun _ hk=>hk.2)⟩,⟨by apply_rules only [HO107.out,zs,zt,zr]⟩,⟨by apply_rules only [BK101.out,zj,zh,zk]⟩,⟨by apply_rules only [HB.out,zc,zd,zb,zg,GE101.out]⟩⟩
 case round =>
  clear H';(try clear c2);(try clear p2);(try clear c5);(try clear hcz6_0);(try clear hcz6_1);(try clear hcz6_2);(try clear hfz6_0);(try clear hfz6_1);(try clear hfz6_2);obtain ⟨x3_1,x4_1,x13_1,rfl,rfl,HA,HK1,HO_4,HO_11,BK101,HB⟩:=hrel
  cases gk with
 |zero=>exact absurd HA.out (by simp [impl_Board_covers.l0])
 |succ k1 =>
   have H:=HA.out;clear HA;simp only [impl_Board_covers.l0] at H;by_cases c9:x13_1 < (t105.length:Int)
   ·
    rw [if_pos c9] at H;have c9b0:decide (x13_1 < (t105.length:Int))=true:=decide_eq_true c9;clear c9;by_cases c10:0≤x13_1
    ·
     rw [if_pos c10] at H;have c10b0:decide (0≤x13_1)=true:=decide_eq_true c10;clear c10;by_cases c11:x13_1 < (t105.length:Int)
     ·
      rw [if_pos c11] at H;have c11b0:decide (x13_1 < (t105.length:Int))=true:=decide_eq_true c11;clear c11;by_cases c12:0≤a0_0
      ·
       rw [if_pos c12] at H;have c12b0:=eq_true c12;have c12b1:decide (0≤a0_0)=true:=decide_eq_true c12;clear c12;obtain ⟨ji13,hji13⟩:∃ j_:Int,(shl .i64 1 a0_0)=j_:=⟨_,rfl⟩;(replace H:((impl_Board_columns.f k1 a0_0 a0_1 l0_2 (Go.bits .andNot .i64 (wrap64 ((ji13) - 1)) (rd t105 x13_1))).bind fun t109=>((impl_count.f (rd t105 x13_1)).bind fun t110=>((impl_count.f t109).bind fun t111=>(if (wrap64 (t110 + t111)) < x3_1 then (impl_Board_covers.j1 k1 (wrap64 (t110 + t111)) ([]:List (S37)) (rd t105 x13_1) t109 (wrap64 (t110 + t111)) t105 (t105.length:Int) x13_1 a0_0 a0_1 l0_2) else (impl_Board_covers.j1 k1 x3_1 x4_1 (rd t105 x13_1) t109 (wrap64 (t110 + t111)) t105 (t105.length:Int) x13_1 a0_0 a0_1 l0_2)))))=some r:=by first|(rw [hji13] at H;exact H)|(simp only [hji13] at H ⊢;exact H));have hji13_:(IntKind.i64.wrap (1 * 2 ^ min a0_0.toNat 64))=ji13:=hji13;have hji13z:a0_0≤64→(IntKind.i64.wrap (1 * 2 ^ a0_0.toNat))=ji13:=shl_small hji13;(have hji13u:(IntKind.i64.wrap (2 ^ min a0_0.toNat 64))=ji13:=by have h_:=hji13_;rw [Int.one_mul] at h_;exact h_);(have hji13v:a0_0≤64→(IntKind.i64.wrap (2 ^ a0_0.toNat))=ji13:=fun hle_=>by have h_:=hji13z hle_;rw [Int.one_mul] at h_;exact h_);have hji13y:(wrap64 (1 * 2 ^ min a0_0.toNat 64))=ji13:=(i64_w _).symm.trans hji13_;(have hji13x:a0_0≤64→(wrap64 (1 * 2 ^ a0_0.toNat))=ji13:=fun h_=>(i64_w _).symm.trans (hji13z h_));obtain ⟨t109,A14,H⟩:=bindAside H;(try dsimp only at H);obtain ⟨t110,A15,H⟩:=bindAside H;(try dsimp only at H);obtain ⟨t111,A16,H⟩:=bindAside H;(try dsimp only at H);have HC17:=za H;clear H;have p108:0≤(x13_1:Int):=of_decide_eq_true ‹_›;have q108:x13_1 < (t105.length:Int):=of_decide_eq_true ‹_›;obtain ⟨ad108,e108,hx108_0⟩:=zx (Kd.R_reads' HO_11.out).2.2 x13_1 p108 q108;cases e108;replace p108:=eq_true p108;replace q108:=eq_true q108;(try go_wp2);replace HO_4:=za (Kd.S_drew HO_4.out);replace HO_11:=za (zr HO_11.out);replace BK101:=za (zh BK101.out);replace HB:=za (zb HB.out);refine start_ (n:=9) (S:=fun w'=>w'.cell? ⟨gb101,0,none⟩=some (.int .i64 a0_0)∧w'.cell? ⟨gb101,1,none⟩=some (.int .i64 a0_1)∧w'.cell? ⟨gb101,2,none⟩=some (.slice A0_2 l0_2.length c0_2)) (ds:=[]) #[false,false,false,false,false,false,false,false,false] (by kernel_rfl) rfl rfl ⟨(ze BK101.out 0).trans rfl,(ze BK101.out 1).trans rfl,(ze BK101.out 2).trans rfl⟩ (fun hHeld=>?_);refine with_tabW impl_Board_covers.tab5 impl_Board_covers.bits5 (fun HT_ HW_=>?_);generalize wr.drew=w18 at HO_4 HO_11 BK101 HB hHeld ⊢;refine pure_ (i:=1) (N:=some 18) (v:=?_) (a':=?_) #[false,true,false,false,false,false,false,false,false] rfl rfl (any_of HT_.out (by kernel_rfl)) (fun _ _ _ h=>h) (Or.inl ⟨by rfl,?_⟩) ?_ ?_;rotate_left
       · intro w';go_simp;with_reducible rfl
       rotate_left
       · simp only [Act.put,z0_,z1_,z2_,i64_w,i32_w];rfl
       refine pure_ (i:=5) (N:=some 22) (v:=?_) (a':=?_) #[false,true,false,false,false,true,false,false,false] rfl rfl (any_of HT_.out (by kernel_rfl)) (fun _ _ _ h=>h) (Or.inl ⟨by rfl,?_⟩) ?_ ?_;rotate_left
       · intro w';go_simp;with_reducible rfl
       rotate_left
       · simp only [Act.put,z0_,z1_,z2_,i64_w,i32_w];rfl
       refine take_ (i:=0) (N:=some 17) (v:=?_) (a':=?_) #[true,true,false,false,false,true,false,false,false] rfl rfl (take_ofW HT_.out HW_.out (by kernel_rfl)) (fun _ _ _ h=>h) (Or.inl ⟨by rfl,?_⟩) hHeld ?_ ?_;rotate_left
       · rintro w' ⟨s0,s1,s2⟩;go_simp;with_reducible rfl
       rotate_left
       · simp only [Act.put,z0_,z1_,z2_,i64_w,i32_w];rfl
       refine take_ (i:=2) (N:=some 19) (v:=?_) (a':=?_) #[true,true,true,false,false,true,false,false,false] rfl rfl (take_ofW HT_.out HW_.out (by kernel_rfl)) (fun _ _ _ h=>h) (Or.inl ⟨by rfl,?_⟩) hHeld ?_ ?_;rotate_left
       · rintro w' ⟨s0,s1,s2⟩;go_simp;with_reducible rfl
       rotate_left
       · simp only [Act.put,z0_,z1_,z2_,i64_w,i32_w];rfl
       refine pure_ (i:=3) (N:=some 20) (v:=?_) (a':=?_) #[true,true,true,true,false,true,false,false,false] rfl rfl (any_of HT_.out (by kernel_rfl)) (fun _ _ _ h=>h) (Or.inl ⟨by rfl,?_⟩) ?_ ?_;rotate_left
       · intro w';go_simp;with_reducible rfl
       rotate_left
       · simp only [Act.put,z0_,z1_,z2_,i64_w,i32_w];rfl
       refine pure_ (i:=4) (N:=some 21) (v:=?_) (a':=?_) #[true,true,true,true,true,true,false,false,false] rfl rfl (any_of HT_.out (by kernel_rfl)) (fun _ _ _ h=>h) (Or.inl ⟨by rfl,?_⟩) ?_ ?_;rotate_left
       · intro w';go_simp;with_reducible rfl
       rotate_left
       · simp only [Act.put,z0_,z1_,z2_,i64_w,i32_w];rfl
       refine pure_ (i:=6) (N:=some 23) (v:=?_) (a':=?_) #[true,true,true,true,true,true,true,false,false] rfl rfl (any_of HT_.out (by kernel_rfl)) (fun _ _ _ h=>h) (Or.inl ⟨by rfl,?_⟩) ?_ ?_;rotate_left
       · intro w';go_simp;with_reducible rfl
       rotate_left
       · simp only [Act.put,z0_,z1_,z2_,i64_w,i32_w];rfl
       refine one_ (i:=7) (N:=some 24) #[true,true,true,true,true,true,true,true,false] rfl rfl (one_of HT_.out (by kernel_rfl)) (by decide) (fun K hK=>?_);refine goes_ Tryz.func41 (by kernel_rfl) rfl #[.agg #[.int .i64 a0_0,.int .i64 a0_1,.slice A0_2 l0_2.length c0_2],.int .i64 (Go.bits .andNot .i64 (wrap64 ((ji13) - 1)) (rd t105 x13_1))] (by rfl) rfl rfl (by (try simp only [z3_,z4_,z5_]);first|done|(simp only [hji13];rfl)|rfl|(simp only [List.length_drop,List.length_take];rfl)) ?_;(with_reducible refine (impl_Board_columns.calls k1 a0_0 a0_1 _ _ l0_2 (Go.bits .andNot .i64 (wrap64 ((ji13) - 1)) (rd t105 x13_1)) t109 _ ?side1 ?side2 A14.out).mono ?_);(case side1=>apply_rules only [zq HR0_2.out HB.out,zm,zn,zo]);(case side2=>exact HC0_2.out);rintro e w19 ⟨rfl,hb⟩;refine ⟨_,rfl,?_⟩;replace HO_4:=za (Kd.S_below (by apply_rules only [HO_4.out,Kd.S_alloc,Kd.S_drewN,Kd.S_drew]) hb);replace HO_11:=za (Kd.R_below (by apply_rules only [HO_11.out,zs,zt,zr]) hb);replace BK101:=za (zp (g:=gb101) (o:=.cells #[.int .i64 a0_0,.int .i64 a0_1,.slice A0_2 l0_2.length c0_2] 26 (0,0)) (by apply_rules only [BK101.out,zj,zh,zk]) hb);replace HB:=za (zl (by apply_rules only [HB.out,zc,zd,zb,zg,GE101.out]) hb);refine hK.out _ _ ⟨(ze BK101.out 0).trans rfl,(ze BK101.out 1).trans rfl,(ze BK101.out 2).trans rfl⟩ (fun hHeld=>?_);clear hK K;refine norm_ (a':=?_) ?_ ?_;rotate_left
       · show Act.put _ (some 24) _=_;simp only [Act.put,z0_,z1_,z2_,i64_w,i32_w];rfl
       refine pure_ (i:=8) (N:=some 7) (v:=?_) (a':=?_) #[true,true,true,true,true,true,true,true,true] rfl rfl (any_of HT_.out (by kernel_rfl)) (fun _ _ _ h=>h) (Or.inl ⟨by rfl,?_⟩) ?_ ?_;rotate_left
       · intro w';go_simp;with_reducible rfl
       rotate_left
       · simp only [Act.put,z0_,z1_,z2_,i64_w,i32_w];rfl
       refine done_ (done_of HT_.out (by kernel_rfl)) ?_;(go_upto_if 32 with (first|((with_reducible refine zu (f:=58) rfl ?_);refine goesL_ (some 26) rfl rfl Tryz.func58 (by kernel_rfl) rfl #[.int .i64 (rd t105 x13_1)] rfl (by first|rfl|simp only [z3_,z4_,z5_];try rfl) ?_;(with_reducible refine (impl_count.calls (rd t105 x13_1) t110 _ A15.out).mono ?_);rintro e w' ⟨rfl,⟨nd,rfl⟩⟩;refine ⟨_,rfl,?_⟩)|((with_reducible refine zu (f:=58) rfl ?_);refine goesL_ (some 28) rfl rfl Tryz.func58 (by kernel_rfl) rfl #[.int .i64 t109] rfl (by first|rfl|simp only [z3_,z4_,z5_];try rfl) ?_;(with_reducible refine (impl_count.calls t109 t111 _ A16.out).mono ?_);rintro e w' ⟨rfl,⟨nd,rfl⟩⟩;refine ⟨_,rfl,?_⟩)));(try simp only [Act.put,z0_,z1_,z2_]);go_cut [3,4] (fun v3 v4 wc=>∃ (kq:Nat) (x3_16:Int) (x4_16:List (S37)),v3=.int .i64 x3_16∧Aside0 (impl_Board_covers.j1 kq x3_16 x4_16 (rd t105 x13_1) t109 (wrap64 (t110 + t111)) t105 (t105.length:Int) x13_1 a0_0 a0_1 l0_2=some r)∧Aside0 (kq≤k1)∧Aside0 (Kd.S k37 37 wc w.heap.size (fun k_=>some k_ ≠ ((.slice (some ad108) t105.length co8):Value).ownBlock) v4 x4_16)∧Aside0 (Kd.R (Kd.int .i64) 3 wc w.heap.size (fun _=>True) (.slice (some ad108) t105.length co8) t105)∧Aside0 (wc.heap[gb101]?=some (.cells #[.int .i64 a0_0,.int .i64 a0_1,(.slice A0_2 l0_2.length c0_2)] 26 (0,0)))∧Aside0 (Below w.heap.size w wc))
       case first =>
        have H:=HC17.out;clear HC17;by_cases c20:(wrap64 (t110 + t111)) < x3_1
        · rw [if_pos c20] at H;have c20b0:decide ((wrap64 (t110 + t111)) < x3_1)=true:=decide_eq_true c20;clear c20;(first|rw [c20b0]|(simp only [i64_w,i32_w];rw [c20b0])|skip);have H':=za H;clear H;(go_wp2);(go_meet);case rel=>exact ⟨_,(wrap64 (t110 + t111)),(([]:List (S37))),(by first|rfl|(simp;done)|(simp [*];done)),H',⟨by have:=HK1.out;first|omega|exact Nat.le_refl _⟩,⟨by first|exact Kd.S_nil _ _ _ _ _|exact Kd.N_nil _ _ _ _ _|exact Kd.V_nil _ _ _ _ _|exact Kd.Q_nil _ _ _ _ _|exact Kd.R_nil _ _ _ _ _⟩,⟨by apply_rules only [HO_11.out,zs,zt,zr]⟩,⟨by apply_rules only [BK101.out,zj,zh,zk]⟩,⟨by apply_rules only [HB.out,zc,zd,zb,zg,GE101.out]⟩⟩
        · rw [if_neg c20] at H;have c20b0:decide ((wrap64 (t110 + t111)) < x3_1)=false:=decide_eq_false c20;clear c20;(first|rw [c20b0]|(simp only [i64_w,i32_w];rw [c20b0])|skip);have H':=za H;clear H;(go_wp2);(go_meet);case rel=>exact ⟨_,(x3_1),(x4_1),(by first|rfl|(simp;done)|(simp [*];done)),H',⟨by have:=HK1.out;first|omega|exact Nat.le_refl _⟩,⟨by apply_rules only [HO_4.out,Kd.S_alloc,Kd.S_drewN,Kd.S_drew]⟩,⟨by apply_rules only [HO_11.out,zs,zt,zr]⟩,⟨by apply_rules only [BK101.out,zj,zh,zk]⟩,⟨by apply_rules only [HB.out,zc,zd,zb,zg,GE101.out]⟩⟩
       case rest =>
        clear HC17;(try clear c1);(try clear p1);(try clear q1);(try clear hx1);(try clear c2);(try clear p2);(try clear c4);(try clear c5);(try clear p6);(try clear c9);(try clear c9b0);(try clear c10);(try clear c10b0);(try clear p10);(try clear q10);(try clear hx10);(try clear c11);(try clear c11b0);(try clear c12);(try clear c12b0);(try clear c12b1);(try clear c20);(try clear c20b0);(try clear hcz6_0);(try clear hcz6_1);(try clear hcz6_2);(try clear hfz6_0);(try clear hfz6_1);(try clear hfz6_2);(try clear hx108_0);(try clear p108);(try clear p2);(try clear q108);obtain ⟨kq,x3_16,x4_16,rfl,HA,HJ16,HO_4,HO_11,BK101,HB⟩:=hcut
        cases kq with
       |zero=>exact absurd HA.out (by simp [impl_Board_covers.j1])
       |succ kj16 =>
         have H:=HA.out;clear HA;simp only [impl_Board_covers.j1] at H;by_cases c21:(wrap64 (t110 + t111))=x3_16
         ·
          rw [if_pos c21] at H;have c21b0:((wrap64 (t110 + t111)) == x3_16)=true:=beq_iff_eq.mpr c21;have c21b1:((wrap64 (t110 + t111)) != x3_16)=false:=bne_eq_false_iff_eq.mpr c21;clear c21;obtain ⟨t112,A22,H⟩:=bindAside H;(try dsimp only at H);obtain ⟨t115,A23,H⟩:=bindAside H;(try dsimp only at H);by_cases c24:x4_16.length < 2932031007402
          · rw [if_pos c24] at H;have LMc24:=za c24;clear c24;obtain ⟨y118,hy118⟩:∃ y_:List (S37),y_=(x4_16 ++ [(⟨t112,t115⟩:S37)]):=⟨_,rfl⟩;(replace H:(impl_Board_covers.l0 kj16 x3_16 y118 t105 (t105.length:Int) (wrap64 (x13_1 + 1)) a0_0 a0_1 l0_2)=some r:=by first|(rw [hy118];with_reducible exact H)|(have H2_:=(Option.bind_some _ _).symm.trans H;rw [hy118];with_reducible exact H2_)|(have H2_:=(Option.bind_some _ _).symm.trans H;with_reducible exact H2_)|with_reducible exact H|(rw [hy118];exact H)|exact H);have Ny118:=za hy118;clear hy118;have H':=za H;clear H;(go_wp2_with (first|((with_reducible refine zu (f:=59) rfl ?_);refine goesL_ (some 39) rfl rfl Tryz.func59 (by kernel_rfl) rfl #[.int .i64 (rd t105 x13_1)] rfl (by first|rfl|simp only [z3_,z4_,z5_];try rfl) ?_;(with_reducible refine (impl_listOf.calls kj16 (rd t105 x13_1) t112 _ A22.out).mono ?_);rintro e w25 ⟨v113,rfl,ho0,hb⟩;refine ⟨_,rfl,?_⟩;replace HO_4:=za (Kd.S_elder' (by apply_rules only [HO_4.out,Kd.S_alloc,Kd.S_drewN,Kd.S_drew]) (Kd.R_base ho0) hb);have HO114:=za (Kd.R_lower (Kd.R_new' ho0 (Kd.R_lt (by apply_rules only [HO_11.out,zs,zt,zr]))) (zi (by apply_rules only [HB.out,zc,zd,zb,zg,GE101.out])));replace HO_11:=za (Kd.R_elder' (by apply_rules only [HO_11.out,zs,zt,zr]) (Kd.R_base ho0) hb);replace BK101:=za (zp (g:=gb101) (o:=.cells #[.int .i64 a0_0,.int .i64 a0_1,.slice A0_2 l0_2.length c0_2] 26 (0,0)) (by apply_rules only [BK101.out,zj,zh,zk]) hb);replace HB:=za (zl (by apply_rules only [HB.out,zc,zd,zb,zg,GE101.out]) hb))|((with_reducible refine zu (f:=59) rfl ?_);refine goesL_ (some 41) rfl rfl Tryz.func59 (by kernel_rfl) rfl #[.int .i64 t109] rfl (by first|rfl|simp only [z3_,z4_,z5_];try rfl) ?_;(with_reducible refine (impl_listOf.calls kj16 t109 t115 _ A23.out).mono ?_);rintro e w26 ⟨v116,rfl,ho0,hb⟩;refine ⟨_,rfl,?_⟩;replace HO_4:=za (Kd.S_elder' (by apply_rules only [HO_4.out,Kd.S_alloc,Kd.S_drewN,Kd.S_drew]) (Kd.R_base ho0) hb);have HO117:=za (Kd.R_lower (Kd.R_new' (Kd.R_new' ho0 (Kd.R_lt (by apply_rules only [HO_11.out,zs,zt,zr]))) (Kd.R_lt (by apply_rules only [HO114.out,zs,zt,zr]))) (zi (by apply_rules only [HB.out,zc,zd,zb,zg,GE101.out])));replace HO_11:=za (Kd.R_elder' (by apply_rules only [HO_11.out,zs,zt,zr]) (Kd.R_base ho0) hb);replace HO114:=za (Kd.R_elder' (by apply_rules only [HO114.out,zs,zt,zr]) (Kd.R_base ho0) hb);replace BK101:=za (zp (g:=gb101) (o:=.cells #[.int .i64 a0_0,.int .i64 a0_1,.slice A0_2 l0_2.length c0_2] 26 (0,0)) (by apply_rules only [BK101.out,zj,zh,zk]) hb);replace HB:=za (zl (by apply_rules only [HB.out,zc,zd,zb,zg,GE101.out]) hb);obtain ⟨Ao27,co27,eo27⟩:=Kd.R_slice HO117.out;subst eo27;obtain ⟨Ao28,co28,eo28⟩:=Kd.R_slice HO114.out;subst eo28)|((with_reducible refine gate_builtin (b:=.append) (xs:=#[.tmp 37,.tmp 43]) rfl ?_);at_builtin;refine Kd.S_append k37 (w0:=w) w.heap.size rfl (.tmp 37) (.tmp 43) 33 37 (.agg #[(.slice none 0 0),(.slice none 0 0)]) 48 rfl Tryz.underlying33 info37 rfl (by decide) (by omega) u4 x4_16 (⟨t112,t115⟩:S37) [.slice Ao28 t112.length co28,.slice Ao27 t115.length co27] (fun k_=>some k_ ≠ (.slice (some ad108) t105.length co8:Value).ownBlock) (fun k_=>some k_=(.slice Ao28 t112.length co28:Value).ownBlock ∨ some k_=(.slice Ao27 t115.length co27:Value).ownBlock) rfl rfl ?aP (fun k_ hk_=>hk_.elim (fun h_=>((Kd.R_mono (ok':=fun k_=>((fun k_=>some k_ ≠ (.slice (some ad108) t105.length co8:Value).ownBlock)) k_∧some k_ ≠ (u4:Value).ownBlock) (Kd.R_apart' (HO114.out) (Kd.S_typed HO_4.out) (by decide)) (fun k_ hk=>⟨hk.1.1.2,hk.2⟩))).1 k_ h_.symm) (fun h_=>((Kd.R_mono (ok':=fun k_=>((fun k_=>some k_ ≠ (.slice (some ad108) t105.length co8:Value).ownBlock)) k_∧some k_ ≠ (u4:Value).ownBlock) (Kd.R_apart' (HO117.out) (Kd.S_typed HO_4.out) (by decide)) (fun k_ hk=>⟨hk.1.1.2,hk.2⟩))).1 k_ h_.symm)) ?aF ?aO ?aB ?aS ?aL ?_;(case aP=>exact k37_mkM _ _ _ (⟨t112,t115⟩:S37) (Kd.R_mono (Kd.R_tight rfl (Kd.R_mono (ok':=fun k_=>((fun k_=>some k_ ≠ (.slice (some ad108) t105.length co8:Value).ownBlock)) k_∧some k_ ≠ (u4:Value).ownBlock) (Kd.R_apart' (HO114.out) (Kd.S_typed HO_4.out) (by decide)) (fun k_ hk=>⟨hk.1.1.2,hk.2⟩))) (fun _ h_=>Or.inl h_)) (Kd.R_mono (Kd.R_tight rfl (Kd.R_mono (ok':=fun k_=>((fun k_=>some k_ ≠ (.slice (some ad108) t105.length co8:Value).ownBlock)) k_∧some k_ ≠ (u4:Value).ownBlock) (Kd.R_apart' (HO117.out) (Kd.S_typed HO_4.out) (by decide)) (fun k_ hk=>⟨hk.1.1.2,hk.2⟩))) (fun _ h_=>Or.inr (h_))));(case aB=>exact (by apply_rules only [HB.out,zc,zd,zb,zg,GE101.out]));(case aF=>exact (fun k_ hk=>Kd.fresh' (Kd.R_lt (by apply_rules only [HO_11.out,zs,zt,zr])) k_ hk));(case aO=>exact (by (with_reducible repeat (first|apply Kd.S_alloc|apply Kd.S_drewN|apply Kd.S_drew));exact Kd.S_mono HO_4.out (fun k_ hk=>⟨hk.1.1,fun e_=>e_.elim (fun h_=>hk.1.2 h_) (fun h_=>hk.2 h_)⟩)));(case aS=>exact (zi (by apply_rules only [HB.out,zc,zd,zb,zg,GE101.out])));(case aL=>have:=LMc24.out;omega);intro v119 w29 ho hb hg hat;rw [← Ny118.out] at ho;replace HO_11:=za (Kd.R_over' (by apply_rules only [HO_11.out,zs,zt,zr]) (Kd.S_typed (by apply_rules only [HO_4.out,Kd.S_alloc,Kd.S_drewN,Kd.S_drew])) (by decide) hg);replace BK101:=za (blk_grown (g:=gb101) (o:=.cells #[.int .i64 a0_0,.int .i64 a0_1,.slice A0_2 l0_2.length c0_2] 26 (0,0)) (by apply_rules only [BK101.out,zj,zh,zk]) hg (Kd.S_ne HO_4.out BK101.out (by decide)));replace HB:=za (hb);have HO120:=za (ho);clear HO_4 HO114 HO117;clear ho hb hg hat)));(go_roundg kj16);(case measure=>have:=HK1.out;have:=HJ16.out;omega);case rel=>exact ⟨(x3_16),(y118),(wrap64 (x13_1 + 1)),(by first|rfl|(simp;done)|(simp [*];done)),(by first|rfl|(simp;done)|(simp [*];done)),H',⟨by have:=HK1.out;have:=HJ16.out;omega⟩,⟨by apply_rules only [HO120.out,Kd.S_alloc,Kd.S_drewN,Kd.S_drew]⟩,⟨by (with_reducible repeat (first|apply zs|apply zt|apply zr));exact Kd.R_mono HO_11.out (fun _ hk=>trivial)⟩,⟨by apply_rules only [BK101.out,zj,zh,zk]⟩,⟨by apply_rules only [HB.out,zc,zd,zb,zg,GE101.out]⟩⟩
          · rw [if_neg c24] at H;exact absurd H (by simp)
         · rw [if_neg c21] at H;have c21b0:((wrap64 (t110 + t111)) == x3_16)=false:=beq_eq_false_iff_ne.mpr c21;have c21b1:((wrap64 (t110 + t111)) != x3_16)=true:=bne_iff_ne.mpr c21;have H':=za H;clear H;(go_wp2);(go_roundg kj16);(case measure=>have:=HK1.out;have:=HJ16.out;omega);case rel=>exact ⟨(x3_16),(x4_16),(wrap64 (x13_1 + 1)),(by first|rfl|(simp;done)|(simp [*];done)),(by first|rfl|(simp;done)|(simp [*];done)),H',⟨by have:=HK1.out;have:=HJ16.out;omega⟩,⟨by apply_rules only [HO_4.out,Kd.S_alloc,Kd.S_drewN,Kd.S_drew]⟩,⟨by apply_rules only [HO_11.out,zs,zt,zr]⟩,⟨by apply_rules only [BK101.out,zj,zh,zk]⟩,⟨by apply_rules only [HB.out,zc,zd,zb,zg,GE101.out]⟩⟩
      · rw [if_neg c12] at H;exact absurd H (by simp)
     · rw [if_neg c11] at H;exact absurd H (by simp)
    · rw [if_neg c10] at H;exact absurd H (by simp)
   · rw [if_neg c9] at H;have c9b0:decide (x13_1 < (t105.length:Int))=false:=decide_eq_false c9;clear c9;obtain rfl:=Option.some.inj H;(go_wp2);(go_ret);exact ⟨_,by first|rfl|simp [*,errW_none,errW_some] <;> rfl,by (with_reducible repeat (first|apply Kd.S_alloc|apply Kd.S_drewN|apply Kd.S_drew));exact Kd.S_mono HO_4.out (fun _ hk=>trivial),by repeat (first|(with_reducible first|exact HB.out|apply zc|apply zd|apply zb|refine zg ?_ GE101.out)|exact HB.out)⟩
end Go.Proofs.YtpjjeeabpaojnaaGreat.Q
end
section
namespace Go.Proofs.YtpjjeeabpaojnaaGreat.CoversK
set_option linter.unusedVariables false
open Go.RowKit Go.Proofs.YtpjjeeabpaojnaaGreat.Q Go.Proofs.YtpjjeeabpaojnaaGreatW.PrintWords Go.Proofs.YtpjjeeabpaojnaaGreatW.PrintLast Go.Proofs.YtpjjeeabpaojnaaGreatW.PrintMore
open Go.Proofs.YtpjjeeabpaojnaaGreatL Go.Proofs.YtpjjeeabpaojnaaGreat.LawK Go.Proofs.YtpjjeeabpaojnaaGreat.BoardK Go.Proofs.YtpjjeeabpaojnaaGreat.LinesK Go.Proofs.YtpjjeeabpaojnaaGreat.SortM Go.Proofs.YtpjjeeabpaojnaaGreat.RowSetsK Go.Proofs.YtpjjeeabpaojnaaGreat.Koenig Go.Proofs.YtpjjeeabpaojnaaGreat.MostK
set_option maxRecDepth 20000 in
def covs (l:List Int) (R C:Nat):List S37:=((setsM R).filter (fun m=>decide (nM l R m=mostN l C R 0 0))).map (cov l R)
theorem covs_pos {l:List Int} {R C:Nat} (hlR:l.length=R) (hR:R≤6) (hC:C≤6) (hb:∀ i (hi:i < l.length),0≤l[i]∧l[i] < 2 ^ C):0 < (covs l R C).length:=by
 obtain ⟨⟨m,hm,he⟩,_⟩:=nM_min hlR hR hC hb
 unfold covs
 rw [List.length_map]
 exact List.length_pos_of_mem (List.mem_filter.2 ⟨hm,decide_eq_true he⟩)
theorem covs_len (l:List Int) (R C:Nat):(covs l R C).length≤64:=by
 unfold covs
 rw [List.length_map]
 exact Nat.le_trans (List.length_filter_le _ _) (List.length_filter_le _ fullM)
theorem nM_le (l:List Int) (R m:Nat):nM l R m≤12:=by
 have h1:=listM_len m
 have h2:=listM_len (colM l R m)
 unfold nM
 omega
theorem covers_l0 {l:List Int} {R C:Nat} (hlR:l.length=R) (hR:R≤6) (hC:C≤6) (hb:∀ i (hi:i < l.length),0≤l[i]∧l[i] < 2 ^ C) (S:List Nat) (hS:∀ m ∈ S,m < 64∧m < 2 ^ R) (hSl:S.length≤64):∀ (d i a:Nat) (out:List S37),i + d=S.length→out.length≤i →
  Ev (fun k=>impl_Board_covers.l0 k a out (S.map fun (m:Nat)=>(m:Int)) ((S.map fun (m:Nat)=>(m:Int)).length:Int) i R C l) ((S.drop i).foldl (stepC l R) (a,out)).2
|0,i,a,out,hi,ho=>by
  refine Ev.step (f:=fun _=>some out) (fun k=>?_) (evEq (Ev.now _) (by rw [List.drop_eq_nil_of_le (by omega)];rfl))
  rw [impl_Board_covers.l0,if_neg (by rw [List.length_map];omega)]
|d + 1,i,a,out,hi,ho=>by
  have w1:=Aside0.mk (show wrap64 ((i:Int) + 1)=((i + 1:Nat):Int) from by rw [w64 (by omega) (by omega)];rfl)
  have hi2:i < S.length:=by omega
  obtain ⟨h64,hmR⟩:=hS S[i] (List.getElem_mem hi2)
  have hc64:=colM_lt (m:=S[i]) (R:=R) hC hb
  have hlt:comp R S[i] < 2 ^ R:=comp_lt
  have hp:2 ^ R≤2 ^ 6:=Nat.pow_le_pow_right (by decide) hR
  have hp1:=Nat.two_pow_pos R
  have w2:=Aside0.mk (show wrap64 (((2 ^ R:Nat):Int) - 1)=((2 ^ R - 1:Nat):Int) from by rw [w64 (by omega) (by omega)];omega)
  have l1:=listM_len S[i]
  have l2:=listM_len (colM l R S[i])
  have w3:=Aside0.mk (show wrap64 (((listM S[i]).length:Int) + ((listM (colM l R S[i])).length:Int))=((nM l R S[i]:Nat):Int) from by rw [w64 (by omega) (by omega)];unfold nM;omega)
  have hn:=nM_le l R S[i]
  rw [List.drop_eq_getElem_cons hi2,List.foldl_cons]
  refine Ev.step (f:=fun k=>(impl_Board_columns.f k R C l ((comp R S[i]:Nat):Int)).bind fun t109=>(impl_count.f (S[i]:Nat)).bind fun t110=>(impl_count.f t109).bind fun t111=>if wrap64 (t110 + t111) < (a:Int) then impl_Board_covers.j1 k (wrap64 (t110 + t111)) [] (S[i]:Nat) t109 (wrap64 (t110 + t111)) (S.map fun (m:Nat)=>(m:Int)) ((S.map fun (m:Nat)=>(m:Int)).length:Int) i R C l else impl_Board_covers.j1 k a out (S[i]:Nat) t109 (wrap64 (t110 + t111)) (S.map fun (m:Nat)=>(m:Int)) ((S.map fun (m:Nat)=>(m:Int)).length:Int) i R C l) (fun k=>?_) ?_
  ·
   rw [impl_Board_covers.l0,if_pos (by rw [List.length_map];omega),if_pos (by omega),if_pos (by rw [List.length_map];omega),if_pos (by omega),rd_lt _ i (by rw [List.length_map];exact hi2),List.getElem_map,shl_one R (by omega),w2.out,andNot (by omega) h64]
   rfl
  ·
   refine Ev.bind (columns (R:Int) (C:Int) hC hb (Nat.lt_of_lt_of_le hlt hp) (fun j hj=>by have:=bit_lt hlt hj;omega)) ?_
   refine Ev.congr (fun k=>by rw [count h64,Option.bind_some,show orM l (listM (comp R S[i]))=colM l R S[i] from rfl,count hc64,Option.bind_some,w3.out]) ?_
   have hap:∀ (a:Nat) (out:List S37),out.length≤i→Ev (fun k=>impl_Board_covers.j1 k a out (S[i]:Nat) ((colM l R S[i]:Nat):Int) ((nM l R S[i]:Nat):Int) (S.map fun (m:Nat)=>(m:Int)) ((S.map fun (m:Nat)=>(m:Int)).length:Int) i R C l) ((S.drop (i + 1)).foldl (stepC l R) (if nM l R S[i]=a then (a,out ++ [cov l R S[i]]) else (a,out))).2:=by
    intro a out ho
    by_cases c:nM l R S[i]=a
    ·
     rw [if_pos c]
     refine Ev.step (f:=fun k=>(impl_listOf.f k (S[i]:Nat)).bind fun t112=>(impl_listOf.f k ((colM l R S[i]:Nat):Int)).bind fun t115=>impl_Board_covers.l0 k a (out ++ [(⟨t112,t115⟩:S37)]) (S.map fun (m:Nat)=>(m:Int)) ((S.map fun (m:Nat)=>(m:Int)).length:Int) ((i + 1:Nat):Int) R C l) (fun k=>?_) ?_
     ·
      rw [impl_Board_covers.j1,if_pos (by omega),w1.out]
      congr 1
      funext t
      congr 1
      funext t2
      rw [if_pos (by omega)]
     ·
      exact Ev.bind (listOf h64) (Ev.bind (listOf hc64) (covers_l0 hlR hR hC hb S hS hSl d (i + 1) a _ (by omega) (by rw [List.length_append,List.length_singleton];omega)))
    ·
     rw [if_neg c]
     refine Ev.step (fun k=>?_) (covers_l0 hlR hR hC hb S hS hSl d (i + 1) a out (by omega) (by omega))
     rw [impl_Board_covers.j1,if_neg (by omega),w1.out]
   by_cases c1:nM l R S[i] < a
   ·
    have e:stepC l R (a,out) S[i]=(nM l R S[i],[cov l R S[i]]):=by unfold stepC;rw [if_pos c1]
    rw [e]
    have h:=hap (nM l R S[i]) [] (by simp)
    rw [if_pos rfl] at h
    exact Ev.congr (fun k=>by rw [if_pos (by omega)]) h
   ·
    have e:stepC l R (a,out) S[i]=if nM l R S[i]=a then (a,out ++ [cov l R S[i]]) else (a,out):=by unfold stepC;rw [if_neg c1]
    rw [e]
    exact Ev.congr (fun k=>by rw [if_neg (by omega)]) (hap a out ho)
theorem covers {l:List Int} {R C:Nat} (hlR:l.length=R) (hR:R≤6) (hC:C≤6) (hb:∀ i (hi:i < l.length),0≤l[i]∧l[i] < 2 ^ C):Ev (fun k=>impl_Board_covers.f k R C l) (covs l R C):=by
 unfold impl_Board_covers.f
 refine Ev.bind (rowSets hR _ _) ?_
 have hlen:(setsM R).length≤64:=List.length_filter_le _ fullM
 have h:=covers_l0 hlR hR hC hb (setsM R) (setsM_lt ⟨R,by omega⟩) hlen (setsM R).length 0 12 [] (by omega) (by simp)
 refine evEq h ?_
 obtain ⟨h1,h2⟩:=nM_min hlR hR hC hb
 have hm:=mostN_le l C R 0 0
 rw [List.drop_zero,fold_covers l R (mostN l C R 0 0) (setsM R) 12 [] (by omega) h2 (.inr h1),if_neg (by omega),List.nil_append]
 rfl
theorem colsS_comp {l:List Int} {R C m:Nat} (hlR:l.length=R) (hR:R≤6) (hC:C≤6) (hb:∀ i (hi:i < l.length),0≤l[i]∧l[i] < 2 ^ C) (hm:m < 64):colsS l (listM m) true R C=listM (colM l R m):=by
 unfold colM
 rw [colsS_mask hlR hR hC hb (fun i hi=>bit_lt comp_lt hi)]
 unfold colsS
 congr 1
 funext x
 unfold reachFrom
 have e:∀ (L:List Nat),(∀ r ∈ L,r < R)→L.any (fun r=>(decide ((r:Int) ∈ listM m) != true) && cell l r x.toNat)=L.any (fun r=>(decide ((r:Int) ∈ listM (comp R m)) != false) && cell l r x.toNat):=by
  intro L hL
  rw [Bool.eq_iff_iff,List.any_eq_true,List.any_eq_true]
  have h:∀ r ∈ L,(decide ((r:Int) ∈ listM m) != true)=(decide ((r:Int) ∈ listM (comp R m)) != false):=by
   intro r hr
   have hrR:=hL r hr
   have h1:((r:Int) ∈ listM (comp R m)) ↔ ¬ (r:Int) ∈ listM m:=by
    rw [mem_listM,mem_listM,Int.toNat_natCast,comp_bit hR hm (by omega),decide_eq_true hrR,Bool.true_and]
    constructor
    ·
     rintro ⟨_,_,g⟩ ⟨_,_,g2⟩
     rw [g2] at g;cases g
    ·
     intro g
     refine ⟨by omega,by omega,?_⟩
     cases e:m.testBit r with
    |false=>rfl
    |true=>exact absurd ⟨by omega,by omega,e⟩ g
   by_cases g:(r:Int) ∈ listM m
   ·
    rw [decide_eq_true g,decide_eq_false (fun h2=>(h1.1 h2) g)];rfl
   ·
    rw [decide_eq_false g,decide_eq_true (h1.2 g)];rfl
  constructor
  ·
   rintro ⟨r,hr,g⟩;exact ⟨r,hr,by rw [← h r hr];exact g⟩
  ·
   rintro ⟨r,hr,g⟩;exact ⟨r,hr,by rw [h r hr];exact g⟩
 exact e _ (fun r hr=>by have:=(List.mem_range'_1.1 hr).2;omega)
theorem lcCovers_l0 {l:List Int} {R C:Nat} (hlR:l.length=R) (hR:R≤6) (hC:C≤6) (hb:∀ i (hi:i < l.length),0≤l[i]∧l[i] < 2 ^ C) (v:Nat) (S:List Nat) (hS:∀ m ∈ S,m < 64∧m < 2 ^ R) (hSl:S.length≤64):∀ (d i:Nat) (out:List S37),i + d=S.length→out.length≤i →
  Ev (fun k=>spec_lcCovers.l0 k v out (S.map listM) ((S.map listM).length:Int) i R C l) (out ++ ((S.drop i).filter (fun m=>decide (nM l R m=v))).map (cov l R))
|0,i,out,hi,ho=>by
  refine Ev.step (f:=fun _=>some out) (fun k=>?_) (evEq (Ev.now _) (by rw [List.drop_eq_nil_of_le (by omega)];simp))
  rw [spec_lcCovers.l0,if_neg (by rw [List.length_map];omega)]
|d + 1,i,out,hi,ho=>by
  have w1:=Aside0.mk (show wrap64 ((i:Int) + 1)=((i + 1:Nat):Int) from by rw [w64 (by omega) (by omega)];rfl)
  have hi2:i < S.length:=by omega
  obtain ⟨h64,hmR⟩:=hS S[i] (List.getElem_mem hi2)
  have l1:=listM_len S[i]
  have l2:=listM_len (colM l R S[i])
  have w3:=Aside0.mk (show wrap64 (((listM S[i]).length:Int) + ((listM (colM l R S[i])).length:Int))=((nM l R S[i]:Nat):Int) from by rw [w64 (by omega) (by omega)];unfold nM;omega)
  have hrd:rd_L2 (S.map listM) (i:Int)=listM S[i]:=by unfold rd_L2;rw [Int.toNat_natCast,gD_lt _ _ (by rw [List.length_map];exact hi2),List.getElem_map]
  rw [List.drop_eq_getElem_cons hi2,List.filter_cons]
  refine Ev.step (f:=fun k=>(spec_lcColumns.f k R C l (listM S[i]) true).bind fun t107=>if wrap64 (((listM S[i]).length:Int) + (t107.length:Int))=(v:Int) then spec_lcCovers.l0 k v (out ++ [(⟨listM S[i],t107⟩:S37)]) (S.map listM) ((S.map listM).length:Int) ((i + 1:Nat):Int) R C l else spec_lcCovers.l0 k v out (S.map listM) ((S.map listM).length:Int) ((i + 1:Nat):Int) R C l) (fun k=>?_) ?_
  ·
   rw [spec_lcCovers.l0,if_pos (by rw [List.length_map];omega),if_pos (by omega),if_pos (by rw [List.length_map];omega),hrd,w1.out]
   congr 1
   funext t
   rw [if_pos (show out.length < 2932031007402 by omega)]
  ·
   refine Ev.bind (lcColumns R C hlR hR hC (fun i hi=>by have:=hb i hi;have:=two_pow_six hC;omega) true (by omega)) ?_
   rw [colsS_comp hlR hR hC hb h64]
   refine Ev.congr (fun k=>by rw [w3.out]) ?_
   by_cases c:nM l R S[i]=v
   ·
    rw [if_pos (decide_eq_true c)]
    refine Ev.congr (fun k=>by rw [if_pos (by omega)]) ?_
    refine evEq (lcCovers_l0 hlR hR hC hb v S hS hSl d (i + 1) (out ++ [cov l R S[i]]) (by omega) (by rw [List.length_append,List.length_singleton];omega)) ?_
    simp
   ·
    rw [if_neg (by simp;exact c)]
    refine Ev.congr (fun k=>by rw [if_neg (by omega)]) ?_
    exact lcCovers_l0 hlR hR hC hb v S hS hSl d (i + 1) out (by omega) (by omega)
theorem lcCovers {l:List Int} {R C:Nat} (hlR:l.length=R) (hR:R≤6) (hC:C≤6) (hb:∀ i (hi:i < l.length),0≤l[i]∧l[i] < 2 ^ C):Ev (fun k=>spec_lcCovers.f k R C l) (covs l R C):=by
 unfold spec_lcCovers.f
 have hp:=two_pow_six hC
 refine Ev.bind (lcMost hlR hR hC (fun i hi=>by have:=hb i hi;omega)) (Ev.bind (lcSets hR) ?_)
 have hlen:(setsM R).length≤64:=List.length_filter_le _ fullM
 have h:=lcCovers_l0 hlR hR hC hb (mostN l C R 0 0) (setsM R) (setsM_lt ⟨R,by omega⟩) hlen (setsM R).length 0 [] (by omega) (by simp)
 exact h
end Go.Proofs.YtpjjeeabpaojnaaGreat.CoversK
end
section
namespace Go.Proofs.YtpjjeeabpaojnaaGreat.CoverLaw
set_option linter.unusedVariables false
open Go.RowKit Go.Proofs.YtpjjeeabpaojnaaGreat.Q Go.Proofs.YtpjjeeabpaojnaaGreatW.PrintWords Go.Proofs.YtpjjeeabpaojnaaGreatW.PrintLast Go.Proofs.YtpjjeeabpaojnaaGreatW.PrintMore
open Go.Proofs.YtpjjeeabpaojnaaGreatL Go.Proofs.YtpjjeeabpaojnaaGreat.LawK Go.Proofs.YtpjjeeabpaojnaaGreat.BoardK Go.Proofs.YtpjjeeabpaojnaaGreat.LinesK Go.Proofs.YtpjjeeabpaojnaaGreat.Koenig Go.Proofs.YtpjjeeabpaojnaaGreat.Walk Go.Proofs.YtpjjeeabpaojnaaGreat.MostK Go.Proofs.YtpjjeeabpaojnaaGreat.AllK Go.Proofs.YtpjjeeabpaojnaaGreat.RowSetsK Go.Proofs.YtpjjeeabpaojnaaGreat.CoversK
open Go.Proofs.YtpjjeeabpaojnaaGreat.Pure
open Go.Proofs.YtpjjeeabpaojnaaGreat.PlaceK (placeB placeI rk)
open Go.Proofs.YtpjjeeabpaojnaaGreat.CellsK (cellsFrom rowCells)
theorem ways_place {l:List Int} {C:Nat}:∀ (d r t:Nat) (pre:List Int),(∀ c:Nat,t.testBit c=true ↔ (c:Int) ∈ pre)→∀ q ∈ waysFrom l C d r t pre,∃ s,q=pre ++ s∧s.length=d∧placeI l C s r pre=true
|0,r,t,pre,ht,q,hq=>by
  rw [waysFrom] at hq
  exact ⟨[],by rw [List.mem_singleton.1 hq,List.append_nil],rfl,rfl⟩
|d + 1,r,t,pre,ht,q,hq=>by
  rw [waysFrom,List.mem_flatMap] at hq
  obtain ⟨c,hc,hq⟩:=hq
  rcases mem_cols.1 hc with rfl|⟨n,rfl,hn⟩
  ·
   rw [col_none] at hq
   obtain ⟨s,rfl,h2,h3⟩:=ways_place d (r + 1) t (pre ++ [-1]) (fun c=>by rw [List.mem_append,List.mem_singleton,ht c];exact ⟨Or.inl,fun h=>h.elim id (fun h=>absurd h (by omega))⟩) q hq
   exact ⟨-1 :: s,by rw [List.append_assoc];rfl,by rw [List.length_cons,h2],by rw [placeI,h3,decide_eq_true rfl];rfl⟩
  ·
   rw [col_some] at hq
   split at hq
   ·
    rename_i hg
    rw [Bool.and_eq_true,Bool.not_eq_true'] at hg
    obtain ⟨s,rfl,h2,h3⟩:=ways_place d (r + 1) (t ||| 2 ^ n) (pre ++ [(n:Int)]) (fun c=>by
     rw [Nat.testBit_or,Bool.or_eq_true,Nat.testBit_two_pow,decide_eq_true_eq,List.mem_append,List.mem_singleton,ht c]
     exact or_congr Iff.rfl (by omega)) q hq
    refine ⟨(n:Int) :: s,by rw [List.append_assoc];rfl,by rw [List.length_cons,h2],?_⟩
    have hm:¬ (n:Int) ∈ pre:=fun h=>by have:=(ht n).2 h;rw [hg.2] at this;cases this
    rw [placeI,h3,Int.toNat_natCast,hg.1,decide_eq_false hm,show inR 0 ((C:Int) - 1) (n:Int)=true from decide_eq_true ⟨by omega,by omega⟩]
    simp
   ·
    cases hq
theorem all_place {l:List Int} {R C:Nat} (hlR:l.length=R) (hC:C≤6) {q:List Int} (hq:q ∈ largestS l C R):placeB l C q=true∧rk q=mostN l C R 0 0:=by
 have h:=(all_perm (l:=l) hC R 0 0 [] (mostN l C R 0 0)).mem_iff.2 hq
 rw [List.mem_filter,decide_eq_true_eq] at h
 obtain ⟨s,e,h2,h3⟩:=ways_place R 0 0 [] (fun c=>by simp) q h.1
 rw [List.nil_append] at e
 subst e
 refine ⟨?_,?_⟩
 ·
  unfold placeB
  rw [h3,decide_eq_true (by omega)]
  rfl
 ·
  have:=h.2
  unfold rooksN at this
  simpa [rk] using this
theorem rises_all:∀ R:Fin 7,∀ m:Fin 64,m.val < 2 ^ R.val→risesB (R.val:Int) 0 (listM m.val)=true:=by decide +kernel
theorem mem_cells {l:List Int} {C R:Nat} {x:List Int}:x ∈ cellsFrom l C 0 R ↔ ∃ i j:Nat,i < R∧j < C∧cell l i j=true∧x=[(i:Int),(j:Int)]:=by
 unfold cellsFrom rowCells
 rw [List.mem_flatMap]
 constructor
 ·
  rintro ⟨i,hi,h⟩
  obtain ⟨j,hj,rfl⟩:=List.mem_map.1 h
  obtain ⟨hj1,hj2⟩:=List.mem_filter.1 hj
  exact ⟨i,j,by have:=(List.mem_range'_1.1 hi).2;omega,by have:=(List.mem_range'_1.1 hj1).2;omega,hj2,rfl⟩
 ·
  rintro ⟨i,j,hi,hj,hc,rfl⟩
  exact ⟨i,List.mem_range'_1.2 ⟨by omega,by omega⟩,List.mem_map.2 ⟨j,List.mem_filter.2 ⟨List.mem_range'_1.2 ⟨by omega,by omega⟩,hc⟩,rfl⟩⟩
section
variable {l : List Int} {R C : Nat} (hlR : l.length = R) (hR : R ≤ 6) (hC : C ≤ 6) (hb : ∀ i (hi : i < l.length), 0 ≤ l[i] ∧ l[i] < 2 ^ C)
include hlR hR hC hb
theorem cover_ok (hB:isBoardB R C l=true) {x:S37} (hx:x ∈ covs l R C):CoverK.ans R C l x.f0 x.f1=(true,true)∧x.f0.length + x.f1.length=mostN l C R 0 0:=by
 unfold covs at hx
 obtain ⟨m,hm,rfl⟩:=List.mem_map.1 hx
 obtain ⟨hm1,hm2⟩:=List.mem_filter.1 hm
 have hlt:=setsM_lt ⟨R,by omega⟩ m hm1
 simp only [] at hlt
 rw [decide_eq_true_eq] at hm2
 refine ⟨?_,hm2⟩
 have hcol:colM l R m < 2 ^ C:=by
  unfold colM LinesK.orM
  exact orFrom_lt hb _ 0 (Nat.two_pow_pos C)
 have hcol6:colM l R m < 64:=Nat.lt_of_lt_of_le hcol (Nat.pow_le_pow_right (by decide) hC)
 have h1:=rises_all ⟨R,by omega⟩ ⟨m,hlt.1⟩ hlt.2
 have h2:=rises_all ⟨C,by omega⟩ ⟨colM l R m,hcol6⟩ hcol
 simp only [] at h1 h2
 unfold CoverK.ans
 show (if (isBoardB R C l && (risesB R 0 (listM m) && risesB C 0 (listM (colM l R m))))=true then (CoverK.coverB l (listM m) (listM (colM l R m)) (R:Int).toNat (C:Int).toNat,true) else (false,false))=(true,true)
 rw [hB,h1,h2,if_pos (by rfl),Int.toNat_natCast,Int.toNat_natCast]
 congr 1
 unfold CoverK.coverB
 rw [List.all_eq_true]
 intro y hy
 obtain ⟨i,j,hi,hj,hc,rfl⟩:=mem_cells.1 hy
 rw [Bool.or_eq_true,decide_eq_true_eq,decide_eq_true_eq]
 show (i:Int) ∈ listM m ∨ (j:Int) ∈ listM (colM l R m)
 rw [mem_listM,mem_listM,Int.toNat_natCast,Int.toNat_natCast]
 cases hmi:m.testBit i with
|true=>exact .inl ⟨by omega,by omega,rfl⟩
|false =>
  refine .inr ⟨by omega,by omega,?_⟩
  unfold colM
  rw [orM_bit,List.any_eq_true]
  refine ⟨(i:Int),mem_listM.2 ⟨by omega,by omega,?_⟩,by rw [Int.toNat_natCast];exact hc⟩
  rw [Int.toNat_natCast,comp_bit hR hlt.1 (by omega),hmi,decide_eq_true hi]
  rfl
theorem cover_most {rows cols:List Int} (h:CoverK.ans R C l rows cols=(true,true)):mostN l C R 0 0≤rows.length + cols.length:=by
 unfold CoverK.ans at h
 split at h
 rotate_left
 ·
  cases h
 rename_i hg
 rw [Bool.and_eq_true,Bool.and_eq_true] at hg
 obtain ⟨m,hm,rfl,hmb⟩:=rises_mask (by omega) rows 0 (by omega) hg.2.1
 obtain ⟨m2,hm2,rfl,hmb2⟩:=rises_mask (by omega) cols 0 (by omega) hg.2.2
 have hcov:=congrArg Prod.fst h
 simp only [Int.toNat_natCast] at hcov
 unfold CoverK.coverB at hcov
 rw [List.all_eq_true] at hcov
 have hk:=(most_min hlR hR hC hb).2 (fun r=>!m.testBit r)
 have e1:cnt (fun r=>!(fun r=>!m.testBit r) r)=(listM m).length:=by
  rw [cnt_all ⟨m,hm⟩]
  exact cnt_congr (fun x _=>Bool.not_not _)
 have e2:cnt (nb (cell l) (fun r=>!m.testBit r))≤(listM m2).length:=by
  rw [cnt_all ⟨m2,hm2⟩]
  refine cnt_mono (fun c hc hn=>?_)
  obtain ⟨r,hr,hs,hcell⟩:=nb_iff.1 hn
  have hcC:=cell_bit hb hcell
  have hrR:r < R:=by
   by_cases hlt:r < R
   ·
    exact hlt
   ·
    rw [CoversK.cell_far (by omega)] at hcell;cases hcell
  have:=hcov [(r:Int),(c:Int)] (mem_cells.2 ⟨r,c,hrR,hcC,hcell,rfl⟩)
  rw [Bool.or_eq_true,decide_eq_true_eq,decide_eq_true_eq] at this
  have h2:(r:Int) ∈ listM m ∨ (c:Int) ∈ listM m2:=this
  rw [mem_listM,mem_listM,Int.toNat_natCast,Int.toNat_natCast] at h2
  rcases h2 with h2|h2
  ·
   rw [h2.2.2] at hs;cases hs
  ·
   exact h2.2.2
 unfold kap at hk
 omega
end
end Go.Proofs.YtpjjeeabpaojnaaGreat.CoverLaw
end
section
namespace Go.Proofs.YtpjjeeabpaojnaaGreat.PermS
set_option linter.unusedVariables false
open Go Go.RowKit Go.Lib Go.Sort Go.Proofs Go.Proofs.YtpjjeeabpaojnaaGreatW.PrintWords Go.Proofs.YtpjjeeabpaojnaaGreatW.PrintLast Go.Proofs.YtpjjeeabpaojnaaGreatW.PrintMore
theorem own_written {W:World} {e base g n cap m q:Nat} {inner ys:List Value} {os:Array Obj} (h:W.ownsRow base e 1 (.slice (some ⟨g,0,none⟩) n cap) m inner) (hl:ys.length=inner.length) :
  (grow ((W.drewN q).setCells g 0 ys) os).ownsRow base e 1 (.slice (some ⟨g,0,none⟩) n cap) m ys∧(∀ k,k < W.heap.size→k ≠ g→(grow ((W.drewN q).setCells g 0 ys) os).heap[k]?=W.heap[k]?)∧(grow ((W.drewN q).setCells g 0 ys) os).os=W.os∧(grow ((W.drewN q).setCells g 0 ys) os).tape=W.tape∧(grow ((W.drewN q).setCells g 0 ys) os).output=W.output∧W.heap.size≤(grow ((W.drewN q).setCells g 0 ys) os).heap.size:=by
 obtain ⟨hlen,hr⟩:=h
 rcases hr with ⟨hv,_⟩|⟨g2,cap2,cur,hv,hbg,hg,hnc,hcm,hcs,htake⟩
 ·
  cases hv
 ·
  injection hv with e1 e2 e3
  injection e1 with e1
  injection e1 with e1 _ _
  subst e1
  subst e3
  have hg2:(W.drewN q).heap[g]?=some (.cells cur e (0,0)):=hg
  have hlc:ys.length≤cur.size:=by
   rw [hl,← htake,List.length_take]
   exact Nat.le_trans (Nat.min_le_right _ _) (Nat.le_of_eq (Array.length_toList))
  obtain ⟨cur',h3,h4,h5⟩:=setCells_row ys 0 (W.drewN q) cur hg2 (by omega)
  obtain ⟨s1,s2,s3,s4⟩:=setCells_same g ys 0 (W.drewN q)
  have hlt:g < ((W.drewN q).setCells g 0 ys).heap.size:=blk_lt h3
  have hil:inner.length=m * 1:=hlen
  refine ⟨⟨by rw [hl];exact hlen,.inr ⟨g,cap,cur',by rw [e2],hbg,?_,hnc,hcm,by omega,?_⟩⟩,fun k hk hne=>?_,s1,s2,s3,?_⟩
  ·
   rw [heap_grow_old _ _ hlt];exact h3
  ·
   rw [h5,List.take_zero,List.nil_append,List.take_append_of_le_length (by omega),List.take_of_length_le (by omega)]
  ·
   have hk2:k < ((W.drewN q).setCells g 0 ys).heap.size:=by rw [s4];exact hk
   rw [heap_grow_old _ _ hk2]
   exact setCells_far _ _ k hne
  ·
   rw [size_grow,s4]
   show W.heap.size≤W.heap.size + os.size
   omega
section
variable {α : Type} {d : Kd α} {e base : Nat} {ok okv : Nat → Prop} {W W' : World} {v : Value} {xs : List α} {f : Nat → Nat} {inner : List Value}
theorem elem_M (hd:d.sz=1) (hr:Reps ((Kd.tag f d).M W base ok) d.sz xs.zipIdx inner) (i:Fin xs.length):d.M W base (fun k=>ok k∧f k=i.val) xs[i] [inner.getD i.val (.bool false)]:=by
 have hil:inner.length=xs.length:=by have:=hr.1;rw [List.length_zipIdx,hd,Nat.mul_one] at this;exact this
 have h:=hr.2 i.val (xs[i],i.val) (Kd.zip_at (List.getElem?_eq_getElem i.isLt))
 have hl:i.val < inner.length:=by rw [hil];exact i.isLt
 rw [hd,Nat.mul_one,List.drop_eq_getElem_cons hl] at h
 have e1:inner.getD i.val (.bool false)=inner[i.val]:=by rw [List.getD_eq_getElem?_getD,List.getElem?_eq_getElem hl];rfl
 rw [e1]
 exact h
theorem S_some (hd:d.sz=1) (hr:Reps ((Kd.tag f d).M W base ok) d.sz xs.zipIdx inner) (hok:∀ k,ok k→okv k∧some k ≠ v.ownBlock) (hm:∀ k,ok k→k < W.heap.size→W'.heap[k]?=W.heap[k]?)
  (h0:∀ k,v.ownBlock=some k→okv k) (σ:List (Fin xs.length)) (hσ:σ.Nodup) (ho:W'.ownsRow base e 1 v σ.length (σ.map fun i=>inner.getD i.val (.bool false))) :
  Kd.S d e W' base okv v (σ.map fun i=>xs[i]):=by
 have hap:∀ (i j k:Nat),(∃ h:i < σ.length,(okv k∧some k ≠ v.ownBlock)∧f k=σ[i].val)→(∃ h:j < σ.length,(okv k∧some k ≠ v.ownBlock)∧f k=σ[j].val)→i=j:=by
  rintro i j k ⟨hi,_,e1⟩ ⟨hj,_,e2⟩
  have e3:σ[i]=σ[j]:=Fin.ext (by omega)
  have:=hσ
  rw [List.Nodup,List.pairwise_iff_getElem] at this
  rcases Nat.lt_trichotomy i j with h|h|h
  ·
   exact absurd e3 (this i j hi hj h)
  ·
   exact h
  ·
   exact absurd e3.symm (this j i hj hi h)
 obtain ⟨f',hf⟩:=Kd.reps_tag (d:=d) (w:=W') (base:=base) (ok:=fun k=>okv k∧some k ≠ v.ownBlock) (xs:=σ.map fun i=>xs[i]) (inner:=σ.map fun i=>inner.getD i.val (.bool false)) (fun j k=>∃ h:j < σ.length,(okv k∧some k ≠ v.ownBlock)∧f k=σ[j].val) hap (fun j k ⟨_,h,_⟩=>h) (by rw [hd,List.length_map,List.length_map,Nat.mul_one]) (by
  intro j x hj
  rw [List.getElem?_map] at hj
  obtain ⟨i,hi,rfl⟩:=Option.map_eq_some_iff.1 hj
  have hjl:j < σ.length:=(List.getElem?_eq_some_iff.1 hi).1
  have hij:σ[j]=i:=(List.getElem?_eq_some_iff.1 hi).2
  have hM:=elem_M hd hr i
  have hM2:=d.M_mono (fun _ hk=>hk.1) (d.M_move (w1:=W') (fun k hk=>hm k hk.1.1 hk.2.2.1) (d.M_bound hM))
  rw [hd,Nat.mul_one,List.drop_eq_getElem_cons (by rw [List.length_map];exact hjl),List.take_succ_cons,List.take_zero,List.getElem_map,hij]
  exact d.M_mono (fun k hk=>⟨hjl,hok k hk.1,by rw [hij];exact hk.2⟩) hM2)
 exact ⟨f',h0,_,by rw [List.length_zipIdx,List.length_map];show W'.ownsRow base e d.sz v _ _;rw [hd];exact ho,hf⟩
end
end Go.Proofs.YtpjjeeabpaojnaaGreat.PermS
end
section
namespace Go.Proofs.YtpjjeeabpaojnaaGreat.BehindK
set_option linter.unusedVariables false
open Go Go.Shelf Go.RowKit Go.Lib Go.Sort Go.Proofs Go.Proofs.YtpjjeeabpaojnaaGreat.Q Go.Proofs.YtpjjeeabpaojnaaGreatW.PrintWords Go.Proofs.YtpjjeeabpaojnaaGreatW.PrintLast Go.Proofs.YtpjjeeabpaojnaaGreatW.PrintMore
open Go.Proofs.YtpjjeeabpaojnaaGreatL Go.Proofs.YtpjjeeabpaojnaaGreat.LawK Go.Proofs.YtpjjeeabpaojnaaGreat.AllK
theorem behind_1 {c:Int} (h:okC c=true):impl_behind_1.f c=some ((key c:Nat):Int):=by
 have:=of_decide_eq_true h
 unfold impl_behind_1.f key
 by_cases e:c=-1
 ·
  rw [if_pos e,if_pos e];rfl
 ·
  rw [if_neg e,if_neg e,Int.toNat_of_nonneg (by omega)]
theorem behind_l0 {a b:List Int} (hl:a.length=b.length) (h6:a.length≤6) (ha:a.all okC=true) (hb:b.all okC=true):∀ (d i:Nat),i + d=a.length→Ev (fun k=>impl_behind.l0 k a b (a.length:Int) i) (cmpB (a.drop i) (b.drop i))
|0,i,hi=>by
  rw [List.drop_of_length_le (by omega),List.drop_of_length_le (by omega)]
  refine Ev.step (f:=fun _=>some 0) (fun k=>?_) (Ev.now _)
  rw [impl_behind.l0,if_neg (by omega)]
|d + 1,i,hi=>by
  have h1:wrap64 ((i:Int) + 1)=((i + 1:Nat):Int):=by rw [w64 (by omega) (by omega)];rfl
  have hi1:i < a.length:=by omega
  have hi2:i < b.length:=by omega
  have hoa:=List.all_eq_true.1 ha _ (List.getElem_mem hi1)
  have hob:=List.all_eq_true.1 hb _ (List.getElem_mem hi2)
  have hka:=key_lt hoa
  have hkb:=key_lt hob
  rw [List.drop_eq_getElem_cons hi1,List.drop_eq_getElem_cons hi2,cmpB]
  by_cases e:a[i]=b[i]
  ·
   rw [if_pos e]
   refine Ev.step (fun k=>?_) (behind_l0 hl h6 ha hb d (i + 1) (by omega))
   rw [impl_behind.l0,if_pos (by omega),if_pos (by omega),if_pos (by omega),if_pos (by omega),rd_lt _ _ hi1,rd_lt _ _ hi2,if_pos e,h1]
  ·
   rw [if_neg e]
   refine Ev.step (f:=fun _=>some ((key a[i]:Int) - key b[i])) (fun k=>?_) (Ev.now _)
   rw [impl_behind.l0,if_pos (by omega),if_pos (by omega),if_pos (by omega),if_pos (by omega),rd_lt _ _ hi1,rd_lt _ _ hi2,if_neg e,behind_1 hoa,behind_1 hob,Option.bind_some,Option.bind_some,w64 (by omega) (by omega)]
theorem behind {a b:List Int} (hl:a.length=b.length) (h6:a.length≤6) (ha:a.all okC=true) (hb:b.all okC=true):Ev (fun k=>impl_behind.f k a b) (cmpB a b):=by
 have:=behind_l0 hl h6 ha hb a.length 0 (by omega)
 exact this
def sortOk (l:List (List Int)):Bool:=decide (1≤l.length) && decide (l.length≤1000000) && decide l.Nodup && l.all (fun x=>decide (x.length=(l.headD []).length) && decide (x.length≤6) && x.all okC)
structure SortOk (l:List (List Int)):Prop where
 one:1≤l.length
 many:l.length≤1000000
 nd:l.Nodup
 row:∀ x ∈ l,x.length=(l.headD []).length∧x.length≤6∧x.all okC=true
theorem sortOk_iff {l:List (List Int)}:sortOk l=true ↔ SortOk l:=by
 unfold sortOk
 simp only [Bool.and_eq_true,decide_eq_true_eq,List.all_eq_true]
 constructor
 ·
  rintro ⟨⟨⟨h1,h2⟩,h3⟩,h4⟩
  exact ⟨h1,h2,h3,fun x hx=>⟨(h4 x hx).1.1,(h4 x hx).1.2,List.all_eq_true.2 (h4 x hx).2⟩⟩
 ·
  rintro ⟨h1,h2,h3,h4⟩
  exact ⟨⟨⟨h1,h2⟩,h3⟩,fun x hx=>⟨⟨(h4 x hx).1,(h4 x hx).2.1⟩,List.all_eq_true.1 (h4 x hx).2.2⟩⟩
section
variable {l : List (List Int)} (h : SortOk l)
def cfB (l:List (List Int)) (x y:Fin l.length):Int:=cmpB l[x] l[y]
include h
theorem ltB (x y:Fin l.length):ltOf (cfB l) x y=decide (rankB l[x] < rankB l[y]):=by
 have hx:=h.row l[x] (List.getElem_mem x.isLt)
 have hy:=h.row l[y] (List.getElem_mem y.isLt)
 exact decide_eq_decide.2 (cmp_lt (by omega) hx.2.2 hy.2.2)
theorem swoB:SWO (ltOf (cfB l)) where
 irrefl x:=by rw [ltB h];simp
 trans x y z h1 h2:=by rw [ltB h] at *;simp at *;omega
 ntrans x y z h1 h2:=by rw [ltB h] at *;simp at *;omega
theorem totB (x y:Fin l.length) (h1:ltOf (cfB l) x y=false) (h2:ltOf (cfB l) y x=false):x=y:=by
 rw [ltB h] at h1 h2
 simp only [decide_eq_false_iff_not] at h1 h2
 have hx:=h.row l[x] (List.getElem_mem x.isLt)
 have hy:=h.row l[y] (List.getElem_mem y.isLt)
 have e:=rank_inj (s:=l[x]) (t:=l[y]) (by omega) hx.2.2 hy.2.2 (by omega)
 have hn:=h.nd
 rw [List.Nodup,List.pairwise_iff_getElem] at hn
 rcases Nat.lt_trichotomy x.val y.val with h3|h3|h3
 ·
  exact absurd e (hn x.val y.val x.isLt y.isLt h3)
 ·
  exact Fin.ext h3
 ·
  exact absurd e.symm (hn y.val x.val y.isLt x.isLt h3)
theorem sorted_map:((List.finRange l.length).mergeSort fun x y=>!(ltOf (cfB l)) y x).map (fun i=>l[i])=sortB l:=by
 have h1:=List.map_mergeSort (r:=fun x y=>!(ltOf (cfB l)) y x) (s:=fun a b=>decide (rankB a≤rankB b)) (f:=fun i:Fin l.length=>l[i]) (l:=List.finRange l.length) (by
  intro a _ b _
  rw [ltB h]
  by_cases c:rankB l[b] < rankB l[a]
  ·
   rw [decide_eq_true c,decide_eq_false (by omega)];rfl
  ·
   rw [decide_eq_false c,decide_eq_true (by omega)];rfl)
 rw [h1]
 unfold sortB
 congr 1
 apply List.ext_getElem
 ·
  simp
 ·
  intro i h1 h2
  simp
end
end Go.Proofs.YtpjjeeabpaojnaaGreat.BehindK
namespace Go.Proofs.YtpjjeeabpaojnaaGreat.Q
set_option linter.unusedVariables false
open Go Go.Shelf Go.RowKit Go.Lib Go.Sort Go.Proofs Go.Proofs.YtpjjeeabpaojnaaGreatW.PrintWords Go.Proofs.YtpjjeeabpaojnaaGreatW.PrintLast Go.Proofs.YtpjjeeabpaojnaaGreatW.PrintMore
open Go.Proofs.YtpjjeeabpaojnaaGreat.AllK Go.Proofs.YtpjjeeabpaojnaaGreat.BehindK Go.Proofs.YtpjjeeabpaojnaaGreat.PermS
def slices_SortFunc_int_int__at_impl_behind.f (l0:List (List Int)):Option (List (List Int)):=if sortOk l0=true then some (sortB l0) else none
set_option maxHeartbeats 4000000 in
set_option maxRecDepth 100000 in
theorem slices_SortFunc_int_int__at_impl_behind.calls (P0_:Nat→Prop) (u9000_:Value) (l0:List (List Int)) (r:List (List Int)) (w0 w:World) (hB:Below w0.heap.size w0 w) (ho0:Kd.S (Kd.slice 3 (Kd.int .i64)) 24 w w0.heap.size P0_ u9000_ l0) (h:slices_SortFunc_int_int__at_impl_behind.f l0=some r) :
  Calls Tryz.prog 51 #[u9000_,.func (.func 52) #[] #[]] w fun e w'=>e=.returned (.tuple #[])∧Kd.S (Kd.slice 3 (Kd.int .i64)) 24 w' w0.heap.size (fun k_=>(P0_ k_ ∨ w.heap.size≤k_)) u9000_ r∧Below w0.heap.size w0 w'∧Kept w w' (fun k_=>P0_ k_):=by
 unfold slices_SortFunc_int_int__at_impl_behind.f at h
 by_cases c:sortOk l0=true
 rotate_left
 ·
  rw [if_neg c] at h;cases h
 rw [if_pos c] at h
 obtain rfl:=Option.some.inj h
 have hS:=sortOk_iff.1 c
 have h1:=hS.one
 have h2:=hS.many
 obtain ⟨g,cap,rfl,hbg,hblk,cells,hg⟩:=Kd.S_form ho0 (by omega)
 obtain ⟨f,h0,inner,ho,hr⟩:=ho0
 have hgo:(Value.slice (some ⟨g,0,none⟩) l0.length cap).ownBlock=some g:=by simp [Value.ownBlock]
 have hP:P0_ g:=h0 g hgo
 rw [List.length_zipIdx] at ho
 have hsz:(Kd.slice 3 (Kd.int .i64)).sz=1:=rfl
 have hsz':(Kd.tag f (Kd.slice 3 (Kd.int .i64))).sz=1:=rfl
 rw [hsz'] at ho
 have hil:inner.length=l0.length:=by have:=hr.1;rw [List.length_zipIdx] at this;exact this.trans (Nat.mul_one _)
 haveI:Inhabited (Fin l0.length):=⟨⟨0,h1⟩⟩
 obtain ⟨enc,henc⟩:∃ enc:Fin l0.length→Value,enc=fun i=>inner.getD i.val (.bool false):=⟨_,rfl⟩
 have hM:∀ i:Fin l0.length,∃ A cp,enc i=.slice A l0[i].length cp∧l0[i].length≤cp∧∀ W:World,(∀ k,k ≠ g→k < w.heap.size→W.heap[k]?=w.heap[k]?)→Kd.C (Kd.int .i64) W A l0[i].length l0[i]:=by
  intro i
  obtain ⟨v,e1,hv⟩:=elem_M hsz hr i
  have e2:enc i=v:=by rw [henc];injection e1
  obtain ⟨A,cp,e3,hle,_⟩:=Kd.R_reads hv
  refine ⟨A,cp,by rw [e2,e3],hle,fun W hW=>?_⟩
  have h3:=Kd.R_move (w1:=W) (Kd.R_bound hv) (fun k hk=>hW k (fun e=>hk.1.1.2 (by rw [e];exact hgo.symm)) hk.2.2.1)
  rw [e3] at h3
  exact (Kd.R_reads' h3).2.2
 have eg:∀ args w,(callFunc 52 args).run Tryz.prog w=.ok (.enter 52 args) w:=enters_of Tryz.func52 (by kernel_rfl) rfl
 have hsize:(List.finRange l0.length).toArray.size=l0.length:=by simp
 have h1c:OneCell enc:=fun i=>by obtain ⟨A,cp,e,_⟩:=hM i;rw [e];rfl
 have hH:Holds enc w g 0 (List.finRange l0.length).toArray:=by
  intro j hj
  rw [hsize] at hj
  have e1:(List.finRange l0.length).toArray[j]! = ⟨j,hj⟩:=by simp [hj]
  rw [e1,Nat.zero_add]
  refine ⟨?_,blk_frozen hg j⟩
  have hc:=ho.cells (g:=g) hgo j _ (List.getElem?_eq_getElem (by omega:j < inner.length))
  rw [add_plain] at hc
  rw [hc,henc]
  simp only [List.getD_eq_getElem?_getD,List.getElem?_eq_getElem (by omega:j < inner.length),Option.getD_some]
 have far:∀ (q:Nat) (ys:List (Fin l0.length)) (os:Array Obj),ys.length=l0.length→_:=fun q ys os hl=>own_written (W:=w) (q:=q) (ys:=ys.map enc) (os:=os) ho (by rw [List.length_map,hl,hil])
 have hcmp:CmpLays1 Tryz.prog 52 #[] enc (cfB l0) g 0 (List.finRange l0.length).toArray.size w:=by
  intro m os dk hdk x y
  rw [hsize] at hdk
  have hdl:dk.toList.length=l0.length:=by rw [Array.length_toList];exact hdk
  have hsw:sortWorld enc w g 0 m dk os=grow ((w.drewN m).setCells g 0 (dk.toList.map enc)) os:=by
   unfold sortWorld
   have:=Lib.sorted_world enc w g 0 m (List.finRange l0.length).toArray dk.toList os hH (by rw [hsize,hdl])
   rw [← this,Array.toArray_toList]
  obtain ⟨_,F2,_⟩:=far m dk.toList os hdl
  rw [hsw]
  obtain ⟨A,cp,ex,hlx,hCx⟩:=hM x
  obtain ⟨A',cp',ey,hly,hCy⟩:=hM y
  rw [ex,ey]
  have hx:=hS.row l0[x] (List.getElem_mem x.isLt)
  have hy:=hS.row l0[y] (List.getElem_mem y.isLt)
  obtain ⟨k,hk⟩:=(behind (a:=l0[x]) (b:=l0[y]) (by omega) hx.2.1 hx.2.2 hy.2.2).rounds
  refine (impl_behind.calls k A cp l0[x] A' cp' l0[y] _ _ (hCx _ (fun k hne hlt=>F2 k hlt hne)) hlx (hCy _ (fun k hne hlt=>F2 k hlt hne)) hly hk).mono ?_
  rintro e w' ⟨rfl,⟨q,rfl⟩⟩
  exact ⟨rfl,q,#[],(grow_empty _).symm⟩
 have hT:=Any.slices_SortFunc_total Lay.sortS enc h1c (cfB l0) (swoB hS) 52 #[] g 0 cap (List.finRange l0.length).toArray w eg hcmp hH hblk (by rw [hsize];omega) (totB hS)
 rw [hsize] at hT
 change Calls Tryz.prog 51 _ _ _ at hT
 refine hT.mono ?_
 rintro e w' ⟨rfl,n,os,rfl⟩
 obtain ⟨σ,hσ⟩:∃ σ,σ=(List.finRange l0.length).mergeSort fun x y=>!(ltOf (cfB l0)) y x:=⟨_,rfl⟩
 have hσp:σ.Perm (List.finRange l0.length):=by rw [hσ];exact List.mergeSort_perm _ _
 have hσl:σ.length=l0.length:=by rw [hσp.length_eq];simp
 have hσn:σ.Nodup:=hσp.nodup_iff.2 (List.nodup_finRange _)
 have hsw:sortWorld enc w g 0 n ((List.finRange l0.length).toArray.toList.mergeSort fun x y=>!(ltOf (cfB l0)) y x).toArray os=grow ((w.drewN n).setCells g 0 (σ.map enc)) os:=by
  unfold sortWorld
  rw [← Lib.sorted_world enc w g 0 n (List.finRange l0.length).toArray σ os hH (by rw [hsize,hσl]),hσ]
 rw [hsw]
 obtain ⟨F1,F2,F3,F4,F5,F6⟩:=far n σ os hσl
 refine ⟨rfl,?_,⟨F3.trans hB.os,F4.trans hB.tape,F5.trans hB.output,Nat.le_trans hB.size F6,fun k hk=>?_⟩,⟨F6,fun i hi hn=>F2 i hi (fun he=>hn (he ▸ hP))⟩⟩
 ·
  rw [← sorted_map hS,← hσ]
  refine Kd.S_mono (S_some (okv:=P0_) (W':=grow ((w.drewN n).setCells g 0 (σ.map enc)) os) hsz hr (fun k hk=>hk) (fun k hk hlt=>F2 k hlt (fun e=>hk.2 (by rw [e];exact hgo.symm))) h0 σ hσn ?_) (fun _ h=>.inl h)
  rw [hσl]
  rw [henc] at F1
  rw [henc]
  exact F1
 ·
  have hk2:k < w.heap.size:=Nat.lt_of_lt_of_le hk hB.size
  rw [F2 k hk2 (by omega)]
  exact hB.block k hk
end Go.Proofs.YtpjjeeabpaojnaaGreat.Q
end
section
namespace Go.Proofs.YtpjjeeabpaojnaaGreat.Q
set_option linter.unusedVariables false
open Go.RowKit Go.Proofs.YtpjjeeabpaojnaaGreatW.PrintWords Go.Proofs.YtpjjeeabpaojnaaGreatW.PrintLast Go.Proofs.YtpjjeeabpaojnaaGreatW.PrintMore
open Go.Proofs.YtpjjeeabpaojnaaGreatL Go.Proofs.YtpjjeeabpaojnaaGreat.LawK Go.Proofs.YtpjjeeabpaojnaaGreat.BoardK Go.Proofs.YtpjjeeabpaojnaaGreat.Walk Go.Proofs.YtpjjeeabpaojnaaGreat.MostK Go.Proofs.YtpjjeeabpaojnaaGreat.AllK Go.Proofs.YtpjjeeabpaojnaaGreat.BehindK
def impl_Board_largest.f (a0_0:Int) (a0_1:Int) (l0_2:List Int):Option (List (List Int)):=if isBoardB a0_0 a0_1 l0_2=true then some (largestS l0_2 a0_1.toNat l0_2.length) else none
theorem withs_perm {l:List Int} {C R:Nat} (hC:C≤6) (m:Nat):(withs (m:Int) (waysFrom l C R 0 0 [])).Perm (allS l C R 0 0 [] m):=by
 have h:=all_perm (l:=l) hC R 0 0 [] m
 have e:withs (m:Int) (waysFrom l C R 0 0 [])=(waysFrom l C R 0 0 []).filter (fun p=>decide (rooksN p=rooksN [] + m)):=by
  unfold withs
  apply List.filter_congr
  intro p _
  have h0:rooksN []=0:=rfl
  exact decide_eq_decide.2 (by omega)
 rw [e]
 exact h
theorem withs_ok {l:List Int} {C R:Nat} (hC:C≤6) (hR:R≤6):SortOk (withs ((mostN l C R 0 0:Nat):Int) (waysFrom l C R 0 0 [])):=by
 have hp:=withs_perm (l:=l) (R:=R) hC (mostN l C R 0 0)
 have hrow:∀ x ∈ withs ((mostN l C R 0 0:Nat):Int) (waysFrom l C R 0 0 []),x.length=R∧x.all okC=true:=fun x hx=>largest_row hC x (hp.mem_iff.1 hx)
 have hlen:=hp.length_eq
 have hl2:=largest_len (l:=l) hC hR
 unfold largestS at hl2
 have hne:1≤(withs ((mostN l C R 0 0:Nat):Int) (waysFrom l C R 0 0 [])).length:=by
  rw [hlen]
  exact List.length_pos_iff.2 (largest_ne hC R)
 refine ⟨hne,by omega,hp.nodup_iff.2 (largest_nodup hC R),fun x hx=>?_⟩
 have h1:=hrow x hx
 refine ⟨?_,by omega,h1.2⟩
 cases e:withs ((mostN l C R 0 0:Nat):Int) (waysFrom l C R 0 0 []) with
|nil=>rw [e] at hx;cases hx
|cons y t =>
  have h2:=hrow y (by rw [e];simp)
  rw [List.headD_cons]
  omega
set_option maxHeartbeats 8000000 in
set_option maxRecDepth 100000 in
theorem impl_Board_largest.calls (a0_0 a0_1:Int) (A0_2:Option Addr) (c0_2:Nat) (l0_2:List Int) (r:List (List Int)) (w:World) (hr0_2:Kd.C (Kd.int .i64) w A0_2 l0_2.length l0_2) (hc0_2:l0_2.length≤c0_2) (h:impl_Board_largest.f a0_0 a0_1 l0_2=some r) :
  Calls Tryz.prog 25 #[.agg #[.int .i64 a0_0,.int .i64 a0_1,.slice A0_2 l0_2.length c0_2]] w fun e w'=>∃ v0_:Value,e=.returned (v0_)∧Kd.S (Kd.slice 3 (Kd.int .i64)) 24 w' w.heap.size (fun _=>True) v0_ r∧Below w.heap.size w w':=by
 by_cases hs:isBoardB a0_0 a0_1 l0_2=true
 rotate_left
 ·
  rw [impl_Board_largest.f,if_neg hs] at h;cases h
 rw [impl_Board_largest.f,if_pos hs] at h
 have h:=Option.some.inj h
 obtain ⟨R,C,rfl,rfl,hlR,h1R,hR,h1C,hC,hbits⟩:=board_of hs
 rw [Int.toNat_natCast,hlR] at h
 obtain ⟨k,hk⟩:=(most hs).rounds
 have hW:impl_Board_with.f R C l0_2 ((mostN l0_2 C R 0 0:Nat):Int)=some (withs ((mostN l0_2 C R 0 0:Nat):Int) (waysFrom l0_2 C R 0 0 [])):=by rw [impl_Board_with.f,if_pos hs,Int.toNat_natCast,hlR]
 have hF:slices_SortFunc_int_int__at_impl_behind.f (withs ((mostN l0_2 C R 0 0:Nat):Int) (waysFrom l0_2 C R 0 0 []))=some r:=by
  rw [slices_SortFunc_int_int__at_impl_behind.f,if_pos (sortOk_iff.2 (withs_ok hC hR)),sortB_all hC (withs_perm hC _),← h]
  rfl
 have CM:=Lib.hid (fun (W:World) (hb:Below w.heap.size w W)=>impl_Board_most.calls k R C A0_2 c0_2 l0_2 _ W (Kd.C_below hr0_2 hb) hc0_2 hk)
 have CW:=Lib.hid (fun (W:World) (hb:Below w.heap.size w W)=>impl_Board_with.calls R C A0_2 c0_2 l0_2 _ _ W (Kd.C_below hr0_2 hb) hc0_2 hW)
 have CS:=Lib.hid (fun (u:Value) (W:World) (hb:Below w.heap.size w W) ho=>slices_SortFunc_int_int__at_impl_behind.calls (fun _=>True) u _ _ w W hb ho hF)
 clear h hs hlR h1R hR h1C hC hbits hr0_2 hc0_2 hk hW hF
 generalize ((mostN l0_2 C R 0 0:Nat):Int)=MI at *
 generalize withs MI (waysFrom l0_2 C R 0 0 [])=rows at *
 generalize (R:Int)=RI at *
 generalize (C:Int)=CI at *
 have hu24:=Tryz.underlying26
 go_enter Tryz.func25,Tryz.ntmps25
 go_wp2_with ((with_reducible refine gate_dst (N:=1) rfl ?_);refine box_event ?hg (N:=1) ?hd (cs:=#[.int .i64 RI,.int .i64 CI,.slice A0_2 l0_2.length c0_2]) (t:=26) ?hr ?_;(case hd=>rfl);(case hg=>rfl);(case hr=>first|(go_simp;done)|(go_simp;rfl));intro gb hg w1 hbox hb;have G1:=Aside0.mk hg;have K1:=Aside0.mk hbox;have B1:=Aside0.mk hb;clear hg hbox hb;have z5:w1.cell? ⟨gb,0,none⟩=some (.int .i64 RI):=(blk_cell K1.out 0).trans rfl;have z6:w1.cell? ⟨gb,1,none⟩=some (.int .i64 CI):=(blk_cell K1.out 1).trans rfl;have z7:w1.cell? ⟨gb,2,none⟩=some (.slice A0_2 l0_2.length c0_2):=(blk_cell K1.out 2).trans rfl)
 go_region_with (first
 |(go_at_call 37;(refine (CM.out _ ?sB).mono ?_);(case sB=>repeat (first|exact B1.out|apply below_drew1|apply pw_below_drewN));rintro e w2 ⟨rfl,hb2⟩;have D2:=Aside0.mk (Below.trans (show Below w1.heap.size w1 _ from by repeat (first|exact Below.refl _ _|apply below_drew1|apply pw_below_drewN)) (hb2.mono (Nat.le_refl _)));have B2:=Aside0.mk (B1.out.trans (D2.out.mono B1.out.size));clear hb2;have y5:w2.cell? ⟨gb,0,none⟩=some (.int .i64 RI):=(blk_cell (blk_below K1.out D2.out) 0).trans rfl;have y6:w2.cell? ⟨gb,1,none⟩=some (.int .i64 CI):=(blk_cell (blk_below K1.out D2.out) 1).trans rfl;have y7:w2.cell? ⟨gb,2,none⟩=some (.slice A0_2 l0_2.length c0_2):=(blk_cell (blk_below K1.out D2.out) 2).trans rfl)
 |(go_at_call 50;(refine (CW.out _ ?sB).mono ?_);(case sB=>repeat (first|exact B2.out|apply below_drew1|apply pw_below_drewN));rintro e w3 ⟨v3,rfl,ho3,hb3⟩;have B3:=Aside0.mk (Below.trans (show Below w.heap.size w _ from by repeat (first|exact B2.out|apply below_drew1|apply pw_below_drewN)) (hb3.mono (by have:=B2.out.size;exact this)));have O3:=Aside0.mk (Kd.S_lower ho3 (show w.heap.size≤_ from by have:=B2.out.size;exact this));obtain ⟨A3,c3,hv3⟩:=Kd.S_slice ho3;subst hv3;clear hb3 ho3))
 all_goals go_wp2_with (go_at_call 51;(refine (CS.out _ _ ?sB ?sO).mono ?_);(case sB=>repeat (first|exact B3.out|apply below_drew1|apply pw_below_drewN));(case sO=>(with_reducible repeat (first|apply Kd.S_alloc|apply Kd.S_drewN|apply Kd.S_drew));exact O3.out);rintro e w4 ⟨rfl,ho4,hb4,hk4⟩;have O4:=Aside0.mk ho4;have B4:=Aside0.mk hb4;clear ho4 hb4 hk4)
 all_goals go_ret
 all_goals exact ⟨_,rfl,Kd.S_mono O4.out (fun _ _=>trivial),B4.out⟩
end Go.Proofs.YtpjjeeabpaojnaaGreat.Q
end
