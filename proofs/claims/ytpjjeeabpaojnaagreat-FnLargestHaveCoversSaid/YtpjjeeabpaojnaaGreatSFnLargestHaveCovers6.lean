/- Texts of this claim put together (6): words, what the functions compute, and plain facts. No conditions. -/
import Derived.Test.YtpjjeeabpaojnaaGreatSFnLargestHaveCovers4
import Derived.Test.YtpjjeeabpaojnaaGreatSFnLargestHaveCovers5
import Derived.Test.YtpjjeeabpaojnaaGreatSFnLargestHaveCovers0
section
namespace Go.Proofs.YtpjjeeabpaojnaaGreat.Pure
set_option linter.unusedVariables false
open Go.RowKit Go.Proofs.YtpjjeeabpaojnaaGreat.Q Go.Proofs.YtpjjeeabpaojnaaGreatW.PrintWords Go.Proofs.YtpjjeeabpaojnaaGreatW.PrintLast Go.Proofs.YtpjjeeabpaojnaaGreatW.PrintMore
open Go.Proofs.YtpjjeeabpaojnaaGreatL Go.Proofs.YtpjjeeabpaojnaaGreat.LawK Go.Proofs.YtpjjeeabpaojnaaGreat.BoardK Go.Proofs.YtpjjeeabpaojnaaGreat.LinesK Go.Proofs.YtpjjeeabpaojnaaGreat.PermK Go.Proofs.YtpjjeeabpaojnaaGreat.CellsK
namespace CoverK
def coverB (l rows cols:List Int) (R C:Nat):Bool:=(cellsFrom l C 0 R).all (fun x=>decide (rd x 0 ∈ rows) || decide (rd x 1 ∈ cols))
def ans (r c:Int) (l rows cols:List Int):Bool × Bool:=if (isBoardB r c l && (risesB r 0 rows && risesB c 0 cols))=true then (coverB l rows cols r.toNat c.toNat,true) else (false,false)
set_option maxRecDepth 20000 in
theorem andNot_all:∀ a b:Fin 64,Go.bits .andNot .i64 (a.val:Int) (b.val:Int)=((a.val &&& (63 ^^^ b.val):Nat):Int):=by decide +kernel
theorem andNot {a b:Nat} (ha:a < 64) (hb:b < 64):Go.bits .andNot .i64 (a:Int) (b:Int)=((a &&& (63 ^^^ b):Nat):Int):=andNot_all ⟨a,ha⟩ ⟨b,hb⟩
theorem andNot_bit (a b c:Nat) (ha:a < 64):(a &&& (63 ^^^ b)).testBit c=(a.testBit c && !b.testBit c):=by
 rw [Nat.testBit_and,Nat.testBit_xor,show (63:Nat)=2 ^ 6 - 1 from rfl,Nat.testBit_two_pow_sub_one]
 by_cases h:c < 6
 ·
  rw [decide_eq_true h];cases b.testBit c <;> rfl
 ·
  rw [Nat.testBit_lt_two_pow (Nat.lt_of_lt_of_le (show a < 2 ^ 6 from ha) (Nat.pow_le_pow_right (show 0 < 2 by decide) (show 6≤c by omega)))];rfl
theorem mask_lt {C:Nat} (hC:C≤6):2 ^ C - 1 < 64:=by
 have hp:2 ^ C≤2 ^ 6:=Nat.pow_le_pow_right (by decide) hC
 have:=Nat.two_pow_pos C
 omega
theorem impl_answer {r c:Int} {l rows cols:List Int} (hr:rows.length≤1048576) (hc:cols.length≤1048576):Ev (fun k=>impl_IsCover.f k r c l rows cols) (ans r c l rows cols):=by
 unfold impl_IsCover.f ans
 refine Ev.congr (fun k=>by rw [impl_IsBoard.f,Option.bind_some]) ?_
 have no:∀ (R C:Int),Ev (fun k=>impl_IsCover.j0 k true R C l rows cols) (false,false):=fun R C=>Ev.step (f:=fun _=>some (false,false)) (fun k=>by rw [impl_IsCover.j0,if_pos rfl]) (Ev.now _)
 by_cases hb:isBoardB r c l=true
 ·
  obtain ⟨R,C,rfl,rfl,hlR,h1R,hR,h1C,hC,hbits⟩:=board_of hb
  refine Ev.congr (fun k=>by rw [if_pos hb]) ?_
  rw [hb,Bool.true_and,Int.toNat_natCast,Int.toNat_natCast]
  refine Ev.bind (areSome (by omega) (by omega) (by omega)) ?_
  by_cases h1:risesB (R:Int) 0 rows=true
  ·
   refine Ev.congr (fun k=>by rw [if_pos h1]) ?_
   rw [h1,Bool.true_and]
   refine Ev.bind (areSome (by omega) (by omega) (by omega)) ?_
   by_cases h2:risesB (C:Int) 0 cols=true
   ·
    rw [if_pos h2,h2]
    obtain ⟨m1,hm1,rfl,hb1⟩:=rises_mask (by omega) rows 0 (by omega) h1
    obtain ⟨m2,hm2,rfl,hb2⟩:=rises_mask (by omega) cols 0 (by omega) h2
    have hpR:=mask_lt hR
    have e1:wrap64 (shl .i64 1 (R:Int) - 1)=((2 ^ R - 1:Nat):Int):=by
     have h5:0 < 2 ^ R:=Nat.two_pow_pos R
     have h4:2 ^ R≤2 ^ 6:=Nat.pow_le_pow_right (by decide) hR
     rw [shl_one R (by omega),w64 (by omega) (by omega)];omega
    have hlt:((2 ^ R - 1) &&& (63 ^^^ m1)) < 64:=Nat.lt_of_le_of_lt Nat.and_le_left hpR
    have hbit:∀ i,((2 ^ R - 1) &&& (63 ^^^ m1)).testBit i=true ↔ i < R∧m1.testBit i=false:=by
     intro i
     rw [andNot_bit _ _ _ hpR,Nat.testBit_two_pow_sub_one,Bool.and_eq_true,decide_eq_true_eq]
     simp
    refine Ev.step (fun k=>by rw [impl_IsCover.j0,if_neg (by simp),if_pos (by omega)]) ?_
    refine Ev.bind (maskOf hm1) ?_
    rw [e1,andNot hpR hm1]
    refine Ev.bind (columns (R:Int) (C:Int) hC hbits hlt (fun i hi=>by have:=(hbit i).1 hi;omega)) (Ev.bind (maskOf hm2) ?_)
    have hor:orM l (listM ((2 ^ R - 1) &&& (63 ^^^ m1))) < 2 ^ C:=orFrom_lt hbits _ 0 (Nat.two_pow_pos C)
    have hp:2 ^ C≤2 ^ 6:=Nat.pow_le_pow_right (by decide) hC
    rw [andNot (by omega) hm2]
    refine LinesK.evEq (Ev.now _) ?_
    congr 1
    rw [Bool.eq_iff_iff]
    unfold coverB
    rw [List.all_eq_true,beq_iff_eq]
    constructor
    ·
     intro h0 x hx
     obtain ⟨r,c,hr,hc,hcell,rfl⟩:=mem_cells.1 hx
     have e:rd [(r:Int),(c:Int)] 0=r∧rd [(r:Int),(c:Int)] 1=c:=⟨rfl,rfl⟩
     rw [e.1,e.2,Bool.or_eq_true,decide_eq_true_eq,decide_eq_true_eq]
     by_cases hm:m1.testBit r=true
     ·
      exact .inl (mem_listM.2 ⟨by omega,by omega,by rw [Int.toNat_natCast];exact hm⟩)
     ·
      right
      have h3:(orM l (listM ((2 ^ R - 1) &&& (63 ^^^ m1))) &&& (63 ^^^ m2)).testBit c=false:=by
       rw [show (orM l (listM ((2 ^ R - 1) &&& (63 ^^^ m1))) &&& (63 ^^^ m2))=0 by exact_mod_cast h0];simp
      rw [andNot_bit _ _ _ (by omega),orM_bit] at h3
      have h4:(listM ((2 ^ R - 1) &&& (63 ^^^ m1))).any (fun x=>cell l x.toNat c)=true:=by
       rw [List.any_eq_true]
       refine ⟨(r:Int),mem_listM.2 ⟨by omega,by omega,?_⟩,by rw [Int.toNat_natCast];exact hcell⟩
       rw [Int.toNat_natCast]
       exact (hbit r).2 ⟨hr,by simpa using hm⟩
      rw [h4,Bool.true_and] at h3
      exact mem_listM.2 ⟨by omega,by omega,by rw [Int.toNat_natCast];simpa using h3⟩
    ·
     intro h0
     have:(orM l (listM ((2 ^ R - 1) &&& (63 ^^^ m1))) &&& (63 ^^^ m2))=0:=by
      refine Nat.eq_of_testBit_eq (fun c=>?_)
      rw [andNot_bit _ _ _ (by omega),orM_bit,Nat.zero_testBit]
      cases h5:(listM ((2 ^ R - 1) &&& (63 ^^^ m1))).any (fun x=>cell l x.toNat c) with
     |false=>rfl
     |true =>
       obtain ⟨x,hx,hcell⟩:=List.any_eq_true.1 h5
       obtain ⟨hx1,hx2,hx3⟩:=mem_listM.1 hx
       obtain ⟨r,rfl⟩:∃ r:Nat,x=r:=⟨x.toNat,by omega⟩
       rw [Int.toNat_natCast] at hx3 hcell
       obtain ⟨hrR,hm⟩:=(hbit r).1 hx3
       have hcC:c < C:=by
        by_cases hcc:c < C
        ·
         exact hcc
        ·
         have hz:=(hbits r (by omega))
         have hz2:l[r].toNat < 2 ^ C:=by
          have h7:((l[r].toNat:Nat):Int) < ((2 ^ C:Nat):Int):=by rw [Int.toNat_of_nonneg hz.1];exact_mod_cast hz.2
          exact_mod_cast h7
         have h6:cell l r c=false:=by
          unfold cell
          rw [gD_lt _ _ (show r < l.length by omega)]
          exact Nat.testBit_lt_two_pow (Nat.lt_of_lt_of_le hz2 (Nat.pow_le_pow_right (by decide) (by omega)))
         rw [h6] at hcell;cases hcell
       have h8:=h0 _ (mem_cells.2 ⟨r,c,hrR,hcC,hcell,rfl⟩)
       have e:rd [(r:Int),(c:Int)] 0=r∧rd [(r:Int),(c:Int)] 1=c:=⟨rfl,rfl⟩
       rw [e.1,e.2,Bool.or_eq_true,decide_eq_true_eq,decide_eq_true_eq] at h8
       rcases h8 with h8|h8
       ·
        have:=(mem_listM.1 h8).2.2
        rw [Int.toNat_natCast,hm] at this;cases this
       ·
        have:=(mem_listM.1 h8).2.2
        rw [Int.toNat_natCast] at this
        rw [this];rfl
     rw [this];rfl
   ·
    rw [if_neg h2,show risesB (C:Int) 0 cols=false by simpa using h2]
    exact no _ _
  ·
   rw [show risesB (R:Int) 0 rows=false by simpa using h1,Bool.false_and,if_neg (by simp)]
   exact Ev.congr (fun k=>if_neg (by simp)) (no _ _)
 ·
  rw [show isBoardB r c l=false by simpa using hb,Bool.false_and,if_neg (by simp)]
  exact Ev.congr (fun k=>if_neg (by simp)) (no _ _)
theorem spec_l0 {rows cols:List Int} (h1:rows.length≤1048576) (h2:cols.length≤1048576) {L:List (List Int)} (hL:L.length≤36) (hx:∀ x ∈ L,∃ a b:Int,x=[a,b]):∀ (d i:Nat),i + d=L.length →
  Ev (fun k=>spec_IsCover.l0 k L (L.length:Int) i rows cols) ((L.drop i).all (fun x=>decide (rd x 0 ∈ rows) || decide (rd x 1 ∈ cols)),true)
|0,i,hi=>by
  refine Ev.step (f:=fun _=>some (true,true)) (fun k=>?_) (LinesK.evEq (Ev.now _) (by rw [List.drop_eq_nil_of_le (by omega)];rfl))
  rw [spec_IsCover.l0,if_neg (by omega)]
|d + 1,i,hi=>by
  have w1:wrap64 ((i:Int) + 1)=((i + 1:Nat):Int):=by rw [w64 (by omega) (by omega)];rfl
  have hi2:i < L.length:=by omega
  have ih:=spec_l0 h1 h2 hL hx d (i + 1) (by omega)
  have er:rd_L2 L (i:Int)=L[i]:=by unfold rd_L2;rw [Int.toNat_natCast];exact gD_lt _ _ hi2
  obtain ⟨a,b,hab⟩:=hx L[i] (List.getElem_mem hi2)
  rw [List.drop_eq_getElem_cons hi2,List.all_cons]
  have hlen:(L[i]).length=2:=by rw [hab];rfl
  refine Ev.step (f:=fun k=>(spec_l1Has.f k rows (rd L[i] 0)).bind fun t=>if t=true then spec_IsCover.l0 k L (L.length:Int) ((i + 1:Nat):Int) rows cols else (spec_l1Has.f k cols (rd L[i] 1)).bind fun t2=>if t2=true then spec_IsCover.l0 k L (L.length:Int) ((i + 1:Nat):Int) rows cols else some (false,true)) (fun k=>?_) ?_
  ·
   rw [spec_IsCover.l0,if_pos (by omega),if_pos (by omega),if_pos (by omega),er,if_pos (by omega),if_pos (by omega),w1]
  ·
   refine Ev.bind (l1Has _ (by omega)) ?_
   by_cases c1:rd L[i] 0 ∈ rows
   ·
    rw [decide_eq_true c1,Bool.true_or,Bool.true_and]
    exact Ev.congr (fun k=>if_pos rfl) ih
   ·
    rw [decide_eq_false c1,Bool.false_or]
    refine Ev.congr (fun k=>if_neg (by simp)) ?_
    refine Ev.bind (l1Has _ (by omega)) ?_
    by_cases c2:rd L[i] 1 ∈ cols
    ·
     rw [decide_eq_true c2,Bool.true_and]
     exact Ev.congr (fun k=>if_pos rfl) ih
    ·
     rw [decide_eq_false c2,Bool.false_and]
     exact Ev.congr (fun k=>if_neg (by simp)) (Ev.now _)
theorem spec_answer {r c:Int} {l rows cols:List Int} (hl:l.length≤1048576) (hr:rows.length≤1048576) (hc:cols.length≤1048576):Ev (fun k=>spec_IsCover.f k r c l rows cols) (ans r c l rows cols):=by
 unfold spec_IsCover.f ans
 refine Ev.bind (boGood r c (by omega)) ?_
 have no:∀ (R C:Int),Ev (fun k=>spec_IsCover.j0 k true R C l rows cols) (false,false):=fun R C=>Ev.step (f:=fun _=>some (false,false)) (fun k=>by rw [spec_IsCover.j0,if_pos rfl]) (Ev.now _)
 by_cases hb:isBoardB r c l=true
 ·
  obtain ⟨R,C,rfl,rfl,hlR,h1R,hR,h1C,hC,hbits⟩:=board_of hb
  refine Ev.congr (fun k=>by rw [if_pos hb]) ?_
  rw [hb,Bool.true_and,Int.toNat_natCast,Int.toNat_natCast]
  refine Ev.bind (l1Rising (by omega) (by omega) (by omega)) ?_
  by_cases h1:risesB (R:Int) 0 rows=true
  ·
   refine Ev.congr (fun k=>by rw [if_pos h1]) ?_
   rw [h1,Bool.true_and]
   refine Ev.bind (l1Rising (by omega) (by omega) (by omega)) ?_
   by_cases h2:risesB (C:Int) 0 cols=true
   ·
    rw [if_pos h2,h2]
    refine Ev.step (fun k=>by rw [spec_IsCover.j0,if_neg (by simp)]) ?_
    refine Ev.bind (boCells hlR hR hC (fun i hi=>by have:=hbits i hi;have:=two_pow_six hC;omega)) ?_
    have:=spec_l0 hr hc (L:=cellsFrom l C 0 R) (cells_len l C R hC hR) (fun x hx=>by obtain ⟨r,c,_,_,_,rfl⟩:=mem_cells.1 hx;exact ⟨_,_,rfl⟩) (cellsFrom l C 0 R).length 0 (by omega)
    rw [List.drop_zero] at this
    exact this
   ·
    rw [if_neg h2,show risesB (C:Int) 0 cols=false by simpa using h2]
    exact no _ _
  ·
   rw [show risesB (R:Int) 0 rows=false by simpa using h1,Bool.false_and,if_neg (by simp)]
   exact Ev.congr (fun k=>if_neg (by simp)) (no _ _)
 ·
  rw [show isBoardB r c l=false by simpa using hb,Bool.false_and,if_neg (by simp)]
  exact Ev.congr (fun k=>if_neg (by simp)) (no _ _)
end CoverK
open CoverK
end Go.Proofs.YtpjjeeabpaojnaaGreat.Pure
end
section
namespace Go.Proofs.YtpjjeeabpaojnaaGreat.Koenig
set_option linter.unusedVariables false
def cnt (p:Nat→Bool):Nat:=(List.range 6).countP p
theorem countP_mod (p q:Nat→Bool):∀ l:List Nat,l.countP (fun x=>p x || q x) + l.countP (fun x=>p x && q x)=l.countP p + l.countP q
|[]=>rfl
|a :: l=>by
  have ih:=countP_mod p q l
  simp only [List.countP_cons]
  cases p a <;> cases q a <;> simp <;> omega
theorem cnt_mod (p q:Nat→Bool):cnt (fun x=>p x || q x) + cnt (fun x=>p x && q x)=cnt p + cnt q:=countP_mod p q _
theorem cnt_mono {p q:Nat→Bool} (h:∀ x,x < 6→p x=true→q x=true):cnt p≤cnt q:=List.countP_mono_left (fun x hx hp=>h x (List.mem_range.1 hx) hp)
theorem cnt_congr {p q:Nat→Bool} (h:∀ x,x < 6→p x=q x):cnt p=cnt q :=
 Nat.le_antisymm (cnt_mono fun x hx hp=>by rw [← h x hx];exact hp) (cnt_mono fun x hx hp=>by rw [h x hx];exact hp)
theorem cnt_false:cnt (fun _=>false)=0:=by decide
theorem cnt_one {c:Nat} (h:c < 6):cnt (fun x=>x == c)=1:=by
 have:∀ c:Fin 6,cnt (fun x=>x == c.val)=1:=by decide
 exact this ⟨c,h⟩
theorem cnt_add {p:Nat→Bool} {c:Nat} (h:c < 6) (hp:p c=false):cnt (fun x=>p x || x == c)=cnt p + 1:=by
 have h1:=cnt_mod p (fun x=>x == c)
 have h2:(fun x=>p x && x == c)=fun _=>false:=by
  funext x
  by_cases e:x=c
  ·
   subst e;simp [hp]
  ·
   simp [e]
 rw [h2,cnt_false,cnt_one h] at h1
 exact h1
def nb (G:Nat→Nat→Bool) (S:Nat→Bool):Nat→Bool:=fun c=>(List.range 6).any (fun r=>S r && G r c)
theorem nb_iff {G:Nat→Nat→Bool} {S:Nat→Bool} {c:Nat}:nb G S c=true ↔ ∃ r,r < 6∧S r=true∧G r c=true:=by
 unfold nb
 rw [List.any_eq_true]
 constructor
 ·
  rintro ⟨r,hr,h⟩
  rw [Bool.and_eq_true] at h
  exact ⟨r,List.mem_range.1 hr,h.1,h.2⟩
 ·
  rintro ⟨r,hr,h1,h2⟩
  exact ⟨r,List.mem_range.2 hr,by rw [h1,h2];rfl⟩
def kap (G:Nat→Nat→Bool) (S:Nat→Bool):Nat:=cnt (fun r=>!S r) + cnt (nb G S)
structure Match (G:Nat→Nat→Bool) (f:Nat→Option Nat):Prop where
 edge:∀ r c,f r=some c→r < 6∧c < 6∧G r c=true
 inj:∀ r r' c,f r=some c→f r'=some c→r=r'
def size (f:Nat→Option Nat):Nat:=cnt (fun r=>(f r).isSome)
def used (f:Nat→Option Nat) (rs:List Nat):Nat→Bool:=fun c=>rs.any (fun r=>f r == some c)
theorem used_iff {f:Nat→Option Nat} {rs:List Nat} {c:Nat}:used f rs c=true ↔ ∃ r,r ∈ rs∧f r=some c:=by
 unfold used
 rw [List.any_eq_true]
 simp
theorem used_cnt {G:Nat→Nat→Bool} {f:Nat→Option Nat} (h:Match G f):∀ rs:List Nat,rs.Nodup→cnt (used f rs)=rs.countP (fun r=>(f r).isSome)
|[],_=>by
  have:used f []=fun _=>false:=by funext c;rfl
  rw [this,cnt_false];rfl
|r :: rs,hn=>by
  obtain ⟨hr,hn2⟩:=List.nodup_cons.1 hn
  have ih:=used_cnt h rs hn2
  rw [List.countP_cons]
  cases e:f r with
 |none =>
   have:used f (r :: rs)=used f rs:=by funext c;simp [used,e]
   rw [this,ih];simp
 |some c =>
   have h1:used f (r :: rs)=fun x=>used f rs x || x == c:=by
    funext x
    have:(f r == some x)=(x == c):=by
     rw [e,Bool.eq_iff_iff,beq_iff_eq,beq_iff_eq]
     exact ⟨fun h=>(Option.some.inj h).symm,fun h=>by rw [h]⟩
    simp only [used,List.any_cons,this]
    exact Bool.or_comm _ _
   have h2:used f rs c=false:=by
    cases h3:used f rs c with
   |false=>rfl
   |true =>
     obtain ⟨r',hr',e'⟩:=used_iff.1 h3
     exact absurd (h.inj r r' c e e' ▸ hr') hr
   rw [h1,cnt_add (h.edge r c e).2.1 h2,ih];simp
theorem countP_split (p q:Nat→Bool):∀ l:List Nat,l.countP p≤l.countP (fun x=>!q x) + l.countP (fun x=>p x && q x)
|[]=>Nat.le_refl _
|a :: l=>by
  have ih:=countP_split p q l
  simp only [List.countP_cons]
  cases p a <;> cases q a <;> simp <;> omega
theorem weak {G:Nat→Nat→Bool} {f:Nat→Option Nat} (h:Match G f) (S:Nat→Bool):size f≤kap G S:=by
 have h1:=countP_split (fun r=>(f r).isSome) S (List.range 6)
 have h2:(List.range 6).countP (fun x=>(f x).isSome && S x)=cnt (used f ((List.range 6).filter S)):=by
  rw [used_cnt h _ (List.nodup_range.filter _),List.countP_filter]
 have h3:cnt (used f ((List.range 6).filter S))≤cnt (nb G S):=by
  refine cnt_mono fun c _ hc=>?_
  obtain ⟨r,hr,e⟩:=used_iff.1 hc
  obtain ⟨hr1,hr2⟩:=List.mem_filter.1 hr
  exact nb_iff.2 ⟨r,List.mem_range.1 hr1,hr2,(h.edge r c e).2.2⟩
 unfold size kap cnt at *
 omega
theorem exists_min {α:Type} (a0:α) (g:α→Nat):∃ a,∀ b,g a≤g b:=by
 have:∀ n a,g a=n→∃ a,∀ b,g a≤g b:=by
  intro n
  induction n using Nat.strongRecOn with
 |_ n ih =>
   intro a ha
   by_cases h:∀ b,g a≤g b
   ·
    exact ⟨a,h⟩
   ·
    obtain ⟨b,hb⟩:=Classical.not_forall.1 h
    exact ih (g b) (by omega) b rfl
 exact this _ a0 rfl
def edges (G:Nat→Nat→Bool):Nat:=cnt (G 0) + cnt (G 1) + cnt (G 2) + cnt (G 3) + cnt (G 4) + cnt (G 5)
def del (G:Nat→Nat→Bool) (r c:Nat):Nat→Nat→Bool:=fun r' c'=>G r' c' && !(r' == r && c' == c)
theorem del_row {G:Nat→Nat→Bool} {r c:Nat} (hc:c < 6) (h:G r c=true):cnt (del G r c r) + 1=cnt (G r):=by
 have h1:del G r c r c=false:=by simp [del]
 rw [← cnt_add hc h1]
 refine cnt_congr fun x _=>?_
 by_cases e:x=c
 ·
  subst e;simp [h]
 ·
  have e2:(x == c)=false:=beq_eq_false_iff_ne.2 e
  simp [del,e2]
theorem del_far {G:Nat→Nat→Bool} {r c r':Nat} (h:r' ≠ r):del G r c r'=G r':=by funext x;simp [del,h]
theorem del_edges {G:Nat→Nat→Bool} {r c:Nat} (hr:r < 6) (hc:c < 6) (h:G r c=true):edges (del G r c) < edges G:=by
 have h1:=del_row hc h
 unfold edges
 have:r=0 ∨ r=1 ∨ r=2 ∨ r=3 ∨ r=4 ∨ r=5:=by omega
 rcases this with rfl|rfl|rfl|rfl|rfl|rfl <;> simp only [del_far (G:=G) (c:=c) (show (0:Nat) ≠ 1 by decide),del_far (G:=G) (c:=c) (show (0:Nat) ≠ 2 by decide),del_far (G:=G) (c:=c) (show (0:Nat) ≠ 3 by decide),del_far (G:=G) (c:=c) (show (0:Nat) ≠ 4 by decide),del_far (G:=G) (c:=c) (show (0:Nat) ≠ 5 by decide),del_far (G:=G) (c:=c) (show (1:Nat) ≠ 0 by decide),del_far (G:=G) (c:=c) (show (1:Nat) ≠ 2 by decide),del_far (G:=G) (c:=c) (show (1:Nat) ≠ 3 by decide),del_far (G:=G) (c:=c) (show (1:Nat) ≠ 4 by decide),del_far (G:=G) (c:=c) (show (1:Nat) ≠ 5 by decide),del_far (G:=G) (c:=c) (show (2:Nat) ≠ 0 by decide),del_far (G:=G) (c:=c) (show (2:Nat) ≠ 1 by decide),del_far (G:=G) (c:=c) (show (2:Nat) ≠ 3 by decide),del_far (G:=G) (c:=c) (show (2:Nat) ≠ 4 by decide),del_far (G:=G) (c:=c) (show (2:Nat) ≠ 5 by decide),del_far (G:=G) (c:=c) (show (3:Nat) ≠ 0 by decide),del_far (G:=G) (c:=c) (show (3:Nat) ≠ 1 by decide),del_far (G:=G) (c:=c) (show (3:Nat) ≠ 2 by decide),del_far (G:=G) (c:=c) (show (3:Nat) ≠ 4 by decide),del_far (G:=G) (c:=c) (show (3:Nat) ≠ 5 by decide),del_far (G:=G) (c:=c) (show (4:Nat) ≠ 0 by decide),del_far (G:=G) (c:=c) (show (4:Nat) ≠ 1 by decide),del_far (G:=G) (c:=c) (show (4:Nat) ≠ 2 by decide),del_far (G:=G) (c:=c) (show (4:Nat) ≠ 3 by decide),del_far (G:=G) (c:=c) (show (4:Nat) ≠ 5 by decide),del_far (G:=G) (c:=c) (show (5:Nat) ≠ 0 by decide),del_far (G:=G) (c:=c) (show (5:Nat) ≠ 1 by decide),del_far (G:=G) (c:=c) (show (5:Nat) ≠ 2 by decide),del_far (G:=G) (c:=c) (show (5:Nat) ≠ 3 by decide),del_far (G:=G) (c:=c) (show (5:Nat) ≠ 4 by decide)] <;> omega
theorem nb_del_ne {G:Nat→Nat→Bool} {r c x:Nat} (S:Nat→Bool) (h:x ≠ c):nb (del G r c) S x=nb G S x:=by
 have:∀ r',del G r c r' x=G r' x:=fun r'=>by simp [del,h]
 unfold nb
 simp only [this]
theorem del_tight {G:Nat→Nat→Bool} {r c:Nat} {S:Nat→Bool} (hc:c < 6) (h:kap (del G r c) S < kap G S) :
  S r=true∧(∀ r',r' < 6→r' ≠ r→S r'=true→G r' c=false)∧kap G S≤kap (del G r c) S + 1:=by
 have h0:nb (del G r c) S c=false:=by
  cases e:nb (del G r c) S c with
 |false=>rfl
 |true =>
   have e2:nb G S c=true:=by
    obtain ⟨r',h1,h2,h3⟩:=nb_iff.1 e
    refine nb_iff.2 ⟨r',h1,h2,?_⟩
    simp [del] at h3
    exact h3.1
   have:nb (del G r c) S=nb G S:=by
    funext x
    by_cases hx:x=c
    ·
     subst hx;rw [e,e2]
    ·
     exact nb_del_ne S hx
   unfold kap at h
   rw [this] at h
   omega
 have h1:nb G S c=true:=by
  cases e:nb G S c with
 |true=>rfl
 |false =>
   have:nb (del G r c) S=nb G S:=by
    funext x
    by_cases hx:x=c
    ·
     subst hx;rw [h0,e]
    ·
     exact nb_del_ne S hx
   unfold kap at h
   rw [this] at h
   omega
 have h2:∀ r',r' < 6→r' ≠ r→S r'=true→G r' c=false:=by
  intro r' hr' hne hS
  cases e:G r' c with
 |false=>rfl
 |true =>
   have:nb (del G r c) S c=true:=nb_iff.2 ⟨r',hr',hS,by simp [del,e,hne]⟩
   rw [h0] at this;cases this
 refine ⟨?_,h2,?_⟩
 ·
  obtain ⟨r',hr',hS,hG⟩:=nb_iff.1 h1
  by_cases e:r'=r
  ·
   subst e;exact hS
  ·
   rw [h2 r' hr' e hS] at hG;cases hG
 ·
  have:cnt (nb G S)=cnt (nb (del G r c) S) + 1:=by
   rw [← cnt_add hc h0]
   refine cnt_congr fun x _=>?_
   by_cases e:x=c
   ·
    subst e;simp [h1]
   ·
    simp [nb_del_ne S e,e]
  unfold kap
  omega
theorem nb_or (G:Nat→Nat→Bool) (S T:Nat→Bool):nb G (fun x=>S x || T x)=fun c=>nb G S c || nb G T c:=by
 funext c
 rw [Bool.eq_iff_iff,Bool.or_eq_true,nb_iff,nb_iff,nb_iff]
 constructor
 ·
  rintro ⟨r,hr,h1,h2⟩
  rcases Bool.or_eq_true _ _ ▸ h1 with h1|h1
  ·
   exact .inl ⟨r,hr,h1,h2⟩
  ·
   exact .inr ⟨r,hr,h1,h2⟩
 ·
  rintro (⟨r,hr,h1,h2⟩|⟨r,hr,h1,h2⟩)
  ·
   exact ⟨r,hr,by rw [h1];rfl,h2⟩
  ·
   exact ⟨r,hr,by rw [h1];exact Bool.or_true _,h2⟩
theorem least_row {p:Nat→Bool}:∀ r,p r=true→∃ q,q≤r∧p q=true∧∀ q',q' < q→p q'=false:=by
 intro r
 induction r using Nat.strongRecOn with
|_ r ih =>
  intro h
  by_cases e:∃ q,q < r∧p q=true
  ·
   obtain ⟨q,hq,hp⟩:=e
   obtain ⟨q2,h1,h2,h3⟩:=ih q hq hp
   exact ⟨q2,by omega,h2,h3⟩
  ·
   refine ⟨r,Nat.le_refl _,h,fun q' hq'=>?_⟩
   cases hp:p q' with
  |false=>rfl
  |true=>exact absurd ⟨q',hq',hp⟩ e
theorem one_each {G:Nat→Nat→Bool} {S0:Nat→Bool} (hmin:∀ S,kap G S0≤kap G S) (hB:∀ r c,r < 6→c < 6→G r c=true→∃ S,kap (del G r c) S < kap G S0)
  {r c1 c2:Nat} (hr:r < 6) (h1:c1 < 6) (h2:c2 < 6) (g1:G r c1=true) (g2:G r c2=true):c1=c2:=by
 by_cases hne:c1=c2
 ·
  exact hne
 exfalso
 obtain ⟨S1,k1⟩:=hB r c1 hr h1 g1
 obtain ⟨S2,k2⟩:=hB r c2 hr h2 g2
 obtain ⟨s1,o1,t1⟩:=del_tight h1 (Nat.lt_of_lt_of_le k1 (hmin S1))
 obtain ⟨s2,o2,t2⟩:=del_tight h2 (Nat.lt_of_lt_of_le k2 (hmin S2))
 have mA:kap G S0≤cnt (fun x=>!((S1 x && S2 x) && !(x == r))) + cnt (nb G (fun x=>(S1 x && S2 x) && !(x == r))):=hmin _
 have mB:kap G S0≤cnt (fun x=>!(S1 x || S2 x)) + cnt (nb G (fun x=>S1 x || S2 x)):=hmin _
 have m1:kap G S1=cnt (fun x=>!S1 x) + cnt (nb G S1):=rfl
 have m2:kap G S2=cnt (fun x=>!S2 x) + cnt (nb G S2):=rfl
 have a1:nb G (fun x=>(S1 x && S2 x) && !(x == r)) c1=false:=by
  cases e:nb G (fun x=>(S1 x && S2 x) && !(x == r)) c1 with
 |false=>rfl
 |true =>
   obtain ⟨q,hq,hs,hg⟩:=nb_iff.1 e
   simp at hs
   rw [o1 q hq hs.2 hs.1.1] at hg;cases hg
 have a2:nb G (fun x=>(S1 x && S2 x) && !(x == r)) c2=false:=by
  cases e:nb G (fun x=>(S1 x && S2 x) && !(x == r)) c2 with
 |false=>rfl
 |true =>
   obtain ⟨q,hq,hs,hg⟩:=nb_iff.1 e
   simp at hs
   rw [o2 q hq hs.2 hs.1.2] at hg;cases hg
 have b1:cnt (nb G (fun x=>(S1 x && S2 x) && !(x == r))) + 2≤cnt (fun c=>nb G S1 c && nb G S2 c):=by
  have e1:=cnt_add h1 a1
  have e2:=cnt_add (p:=fun x=>nb G (fun x=>(S1 x && S2 x) && !(x == r)) x || x == c1) h2 (by
   simp only [a2,Bool.false_or]
   simp
   exact fun h=>hne h.symm)
  have e3:cnt (fun x=>(nb G (fun x=>(S1 x && S2 x) && !(x == r)) x || x == c1) || x == c2)≤cnt (fun c=>nb G S1 c && nb G S2 c):=by
   refine cnt_mono fun x _ hx=>?_
   have both:∀ c,G r c=true→(nb G S1 c && nb G S2 c)=true:=fun c hc=>by
    rw [nb_iff.2 ⟨r,hr,s1,hc⟩,nb_iff.2 ⟨r,hr,s2,hc⟩];rfl
   rw [Bool.or_eq_true,Bool.or_eq_true] at hx
   rcases hx with (hx|hx)|hx
   ·
    obtain ⟨q,hq,hs,hg⟩:=nb_iff.1 hx
    simp at hs
    show (nb G S1 x && nb G S2 x)=true
    rw [nb_iff.2 ⟨q,hq,hs.1.1,hg⟩,nb_iff.2 ⟨q,hq,hs.1.2,hg⟩];rfl
   ·
    rw [eq_of_beq hx];exact both c1 g1
   ·
    rw [eq_of_beq hx];exact both c2 g2
  omega
 have b2:cnt (fun x=>!((S1 x && S2 x) && !(x == r)))=cnt (fun x=>!(S1 x && S2 x)) + 1:=by
  rw [← cnt_add (p:=fun x=>!(S1 x && S2 x)) hr (by simp [s1,s2])]
  refine cnt_congr fun x _=>?_
  cases S1 x <;> cases S2 x <;> simp
 have b3:=cnt_mod (fun x=>!S1 x) (fun x=>!S2 x)
 have b4:(fun x=>!S1 x || !S2 x)=fun x=>!(S1 x && S2 x):=by funext x;cases S1 x <;> cases S2 x <;> rfl
 have b5:(fun x=>!S1 x && !S2 x)=fun x=>!(S1 x || S2 x):=by funext x;cases S1 x <;> cases S2 x <;> rfl
 rw [b4,b5] at b3
 have b6:=cnt_mod (nb G S1) (nb G S2)
 have b7:=nb_or G S1 S2
 rw [b7] at mB
 rw [b2] at mA
 omega
theorem koenig:∀ (n:Nat) (G:Nat→Nat→Bool),edges G=n→∃ f S,Match G f∧size f=kap G S:=by
 intro n
 induction n using Nat.strongRecOn with
|_ n ih =>
  intro G hn
  obtain ⟨S0,hmin⟩:=exists_min (fun _=>true) (kap G)
  by_cases hA:∃ r c,r < 6∧c < 6∧G r c=true∧∀ S,kap G S0≤kap (del G r c) S
  ·
   obtain ⟨r,c,hr,hc,hg,hk⟩:=hA
   obtain ⟨f,S,hf,hs⟩:=ih _ (by rw [← hn];exact del_edges hr hc hg) (del G r c) rfl
   have hf2:Match G f:=⟨fun r' c' e=>by
    obtain ⟨h1,h2,h3⟩:=hf.edge r' c' e
    simp [del] at h3
    exact ⟨h1,h2,h3.1⟩,hf.inj⟩
   refine ⟨f,S0,hf2,Nat.le_antisymm (weak hf2 S0) ?_⟩
   rw [hs];exact hk S
  ·
   have hB:∀ r c,r < 6→c < 6→G r c=true→∃ S,kap (del G r c) S < kap G S0:=by
    intro r c hr hc hg
    by_cases h:∀ S,kap G S0≤kap (del G r c) S
    ·
     exact absurd ⟨r,c,hr,hc,hg,h⟩ hA
    ·
     obtain ⟨S,hS⟩:=Classical.not_forall.1 h
     exact ⟨S,by omega⟩
   have hone:=fun {r c1 c2:Nat}=>one_each (r:=r) (c1:=c1) (c2:=c2) hmin hB
   let f:Nat→Option Nat:=fun r=>(List.range 6).find? (fun c=>(decide (r < 6) && G r c) && !(List.range r).any (fun r'=>G r' c))
   have hf1:∀ r c,f r=some c→r < 6∧c < 6∧G r c=true∧∀ r',r' < r→G r' c=false:=by
    intro r c e
    have h1:=List.find?_some e
    have h2:=List.mem_range.1 (List.mem_of_find?_eq_some e)
    simp at h1
    exact ⟨h1.1.1,h2,h1.1.2,fun r' hr'=>by simpa using h1.2 r' hr'⟩
   have hf:Match G f:=⟨fun r c e=>by obtain ⟨h1,h2,h3,_⟩:=hf1 r c e;exact ⟨h1,h2,h3⟩,fun r r' c e e'=>by
    obtain ⟨_,_,h3,h4⟩:=hf1 r c e
    obtain ⟨_,_,h3',h4'⟩:=hf1 r' c e'
    rcases Nat.lt_trichotomy r r' with h|h|h
    ·
     rw [h4' r h] at h3;cases h3
    ·
     exact h
    ·
     rw [h4 r' h] at h3';cases h3'⟩
   refine ⟨f,fun _=>true,hf,?_⟩
   have h1:size f=cnt (used f (List.range 6)):=(used_cnt hf _ List.nodup_range).symm
   have h2:cnt (used f (List.range 6))=cnt (nb G (fun _=>true)):=by
    refine Nat.le_antisymm (cnt_mono fun c _ hc=>?_) (cnt_mono fun c hc6 hc=>?_)
    ·
     obtain ⟨r,hr,e⟩:=used_iff.1 hc
     exact nb_iff.2 ⟨r,List.mem_range.1 hr,rfl,(hf.edge r c e).2.2⟩
    ·
     obtain ⟨r,hr,_,hg⟩:=nb_iff.1 hc
     obtain ⟨q,hq,hq2,hq3⟩:=least_row (p:=fun r=>G r c) r hg
     refine used_iff.2 ⟨q,List.mem_range.2 (by omega),?_⟩
     cases e:f q with
    |none =>
      have h3:=List.find?_eq_none.1 e c (List.mem_range.2 hc6)
      simp [show q < 6 by omega,show G q c=true from hq2] at h3
      obtain ⟨q',hq',hq4⟩:=h3
      rw [show G q' c=false from hq3 q' hq'] at hq4;cases hq4
    |some c' =>
      obtain ⟨h3,h4,h5,_⟩:=hf1 q c' e
      rw [hone h3 h4 hc6 h5 hq2]
   have h3:kap G (fun _=>true)=cnt (nb G (fun _=>true)):=by
    unfold kap
    have:(fun (r:Nat)=>!true)=fun _=>false:=rfl
    rw [this,cnt_false,Nat.zero_add]
   rw [h1,h2,h3]
end Go.Proofs.YtpjjeeabpaojnaaGreat.Koenig
end
section
namespace Go.Proofs.YtpjjeeabpaojnaaGreat.Q
open Go.RowKit Go.Proofs.YtpjjeeabpaojnaaGreatW.PrintWords Go.Proofs.YtpjjeeabpaojnaaGreatW.PrintLast Go.Proofs.YtpjjeeabpaojnaaGreatW.PrintMore
attribute [local go_sem] max2_int min2_int max_two min_two max_three min_three max_four min_four   -- for this text's walks alone
set_option linter.unusedVariables false
set_option linter.unusedSimpArgs false
def spec_l1Most.f (a0:Int) (a1:Int):Option (Int):=if a0 > a1 then (some a0) else (some a1)
set_option maxHeartbeats 8000000 in
set_option maxRecDepth 100000 in
theorem spec_l1Most.calls0 (a0:Int) (a1:Int) (r:Int) (w:World) (h:spec_l1Most.f a0 a1=some r) :
  Calls Tryz.prog 79 #[.int .i64 a0,.int .i64 a1] w fun e w'=>e=.returned (.int .i64 r)∧w=w':=by
 have H:(if a0 > a1 then (some a0) else (some a1))=some r:=h;clear h;by_cases c3:a0 > a1
 · rw [if_pos c3] at H;have c3b0:decide (a1 < a0)=true:=decide_eq_true c3;clear c3;obtain rfl:=Option.some.inj H;(go_enter Tryz.func79,Tryz.ntmps79);(go_wp2);(go_ret);exact ⟨by first|rfl|(simp;done)|(simp [*];done),rfl⟩
 · rw [if_neg c3] at H;have c3b0:decide (a1 < a0)=false:=decide_eq_false c3;clear c3;obtain rfl:=Option.some.inj H;(go_enter Tryz.func79,Tryz.ntmps79);(go_wp2);(go_ret);exact ⟨by first|rfl|(simp;done)|(simp [*];done),rfl⟩
mutual
def spec_lcMost.l0:Nat→Int→Int→Int→Int→Int→Int→List Int→Option (Int)
|0,_,_,_,_,_,_,_=>none
|k + 1,x1,x2,x7,x8,x102000,x102001,x102002=>if x8 < x102001 then ((spec_boHas.f x102000 x102001 x102002 x1 x8).bind fun t103=>(if t103=true then (if 0≤x8 then (spec_lcMost.j1 k x1 x2 x7 x8 ((Int.tmod (shr .i64 x2 x8) 2) == 0) x102000 x102001 x102002) else (none)) else (spec_lcMost.j1 k x1 x2 x7 x8 false x102000 x102001 x102002))) else (some x7)
def spec_lcMost.j1:Nat→Int→Int→Int→Int→Bool→Int→Int→List Int→Option (Int)
|0,_,_,_,_,_,_,_,_=>none
|k + 1,x1,x2,x7,x8,x34,x102000,x102001,x102002=>if x34=true then (if 0≤x8 then ((spec_lcMost.f k x102000 x102001 x102002 (wrap64 (x1 + 1)) (Go.bits .or .i64 x2 (shl .i64 1 x8))).bind fun t104=>((spec_l1Most.f x7 (wrap64 (1 + t104))).bind fun t105=>(spec_lcMost.l0 k x1 x2 t105 (wrap64 (x8 + 1)) x102000 x102001 x102002))) else (none)) else (spec_lcMost.l0 k x1 x2 x7 (wrap64 (x8 + 1)) x102000 x102001 x102002)
def spec_lcMost.f:Nat→Int→Int→List Int→Int→Int→Option (Int)
|0,_,_,_,_,_=>none
|k + 1,a0_0,a0_1,l0_2,a1,a2=>if a1=a0_0 then (some 0) else ((spec_lcMost.f k a0_0 a0_1 l0_2 (wrap64 (a1 + 1)) a2).bind fun t102=>(spec_lcMost.l0 k a1 a2 t102 0 a0_0 a0_1 l0_2))
end
def spec_lcMost.T8:Bool × List (List Nat × List Nat):=(true,[([],[]),([],[]),([],[]),([2],[2]),([],[]),([],[]),([5],[5]),([4,6],[4,6]),([1,3,7],[1,3,7]),([8],[8]),([0,9,8],[0,9]),([10,10,0,1,2,3,4,5,6,7,8,9,10],[0,10])])
def spec_lcMost.B8:List Nat:=[0,0,0,4,0,0,32,112,254,510,1023,2047]
theorem spec_lcMost.tab8:rtab .any (opsOf Tryz.f56 8)=spec_lcMost.T8:=by kernel_rfl
theorem spec_lcMost.bits8:waitsOk spec_lcMost.T8.2 spec_lcMost.B8=true:=by kernel_rfl
set_option maxHeartbeats 8000000 in
set_option maxRecDepth 100000 in
theorem spec_lcMost.calls (k:Nat):∀ (a0_0:Int) (a0_1:Int) (A0_2:Option Addr) (c0_2:Nat) (l0_2:List Int) (a1:Int) (a2:Int) (r:Int) (w:World) (hr0_2:Kd.C (Kd.int .i64) w A0_2 l0_2.length l0_2) (hc0_2:l0_2.length≤c0_2) (h:spec_lcMost.f k a0_0 a0_1 l0_2 a1 a2=some r),
  Calls Tryz.prog 56 #[.agg #[.int .i64 a0_0,.int .i64 a0_1,.slice A0_2 l0_2.length c0_2],.int .i64 a1,.int .i64 a2] w fun e w'=>e=.returned (.int .i64 r)∧Below w.heap.size w w':=by
 induction k using Nat.strongRecOn with
|_ k ih =>
 intro a0_0 a0_1 A0_2 c0_2 l0_2 a1 a2 r w hr0_2 hc0_2 h
 cases k with
|zero=>exact absurd h (by simp [spec_lcMost.f])
|succ k =>
 simp only [spec_lcMost.f] at h;have hu26:=Tryz.underlying26;have HR0_2:=za hr0_2;have HC0_2:=za hc0_2;clear hr0_2 hc0_2;have HB:=za (Below.refl w.heap.size w);have H:(if a1=a0_0 then (some 0) else ((spec_lcMost.f k a0_0 a0_1 l0_2 (wrap64 (a1 + 1)) a2).bind fun t102=>(spec_lcMost.l0 k a1 a2 t102 0 a0_0 a0_1 l0_2)))=some r:=h;clear h;by_cases c4:a1=a0_0
 · rw [if_pos c4] at H;have c4b0:(a1 == a0_0)=true:=beq_iff_eq.mpr c4;have c4b1:(a1 != a0_0)=false:=bne_eq_false_iff_eq.mpr c4;clear c4;obtain rfl:=Option.some.inj H;(go_enter Tryz.func56,Tryz.ntmps56);(go_wp2_with (first|((with_reducible refine zv (N:=3) rfl ?_);refine zw ?hg (N:=3) ?hd (cs:=#[.int .i64 a0_0,.int .i64 a0_1,.slice A0_2 l0_2.length c0_2]) (t:=26) ?hr ?_;(case hd=>rfl);(case hg=>rfl);(case hr=>first|(go_simp;done)|(go_simp;rfl));intro gb101 hg w5 hbox hb;have BK101:=za (hbox);have GW101:=za ((by rw [hg];exact (zi (by apply_rules only [HB.out,zc,zd,zb])):w.heap.size≤gb101));have GE101:=za ((by rw [hg];exact (zi (by apply_rules only [HB.out,zc,zd,zb])):w.heap.size≤gb101));replace HB:=za (zl (by apply_rules only [HB.out,zc,zd,zb]) hb);clear hb hbox hg;have hcz6_0:w5.cell? ⟨gb101,0,none⟩=some (.int .i64 a0_0):=(ze BK101.out 0).trans rfl;have hcz6_1:w5.cell? ⟨gb101,1,none⟩=some (.int .i64 a0_1):=(ze BK101.out 1).trans rfl;have hcz6_2:w5.cell? ⟨gb101,2,none⟩=some (.slice A0_2 l0_2.length c0_2):=(ze BK101.out 2).trans rfl;have hfz6_0:=zf BK101.out 0;have hfz6_1:=zf BK101.out 1;have hfz6_2:=zf BK101.out 2)));(go_ret);exact ⟨by first|rfl|simp [*,errW_none,errW_some] <;> rfl,by repeat (first|(with_reducible first|exact HB.out|apply zc|apply zd|apply zb|refine zg ?_ GE101.out)|exact HB.out)⟩
 ·
  rw [if_neg c4] at H;have c4b0:(a1 == a0_0)=false:=beq_eq_false_iff_ne.mpr c4;have c4b1:(a1 != a0_0)=true:=bne_iff_ne.mpr c4;obtain ⟨t102,A7,H⟩:=bindAside H;(try dsimp only at H);have H':=za H;clear H;(go_enter Tryz.func56,Tryz.ntmps56);(go_wp2_with (first|((with_reducible refine zv (N:=3) rfl ?_);refine zw ?hg (N:=3) ?hd (cs:=#[.int .i64 a0_0,.int .i64 a0_1,.slice A0_2 l0_2.length c0_2]) (t:=26) ?hr ?_;(case hd=>rfl);(case hg=>rfl);(case hr=>first|(go_simp;done)|(go_simp;rfl));intro gb101 hg w8 hbox hb;have BK101:=za (hbox);have GW101:=za ((by rw [hg];exact (zi (by apply_rules only [HB.out,zc,zd,zb])):w.heap.size≤gb101));have GE101:=za ((by rw [hg];exact (zi (by apply_rules only [HB.out,zc,zd,zb])):w.heap.size≤gb101));replace HB:=za (zl (by apply_rules only [HB.out,zc,zd,zb]) hb);clear hb hbox hg;have hcz9_0:w8.cell? ⟨gb101,0,none⟩=some (.int .i64 a0_0):=(ze BK101.out 0).trans rfl;have hcz9_1:w8.cell? ⟨gb101,1,none⟩=some (.int .i64 a0_1):=(ze BK101.out 1).trans rfl;have hcz9_2:w8.cell? ⟨gb101,2,none⟩=some (.slice A0_2 l0_2.length c0_2):=(ze BK101.out 2).trans rfl;have hfz9_0:=zf BK101.out 0;have hfz9_1:=zf BK101.out 1;have hfz9_2:=zf BK101.out 2)|((with_reducible refine zu (f:=56) rfl ?_);refine goesL_ (some 17) rfl rfl Tryz.func56 (by kernel_rfl) rfl #[.agg #[.int .i64 a0_0,.int .i64 a0_1,.slice A0_2 l0_2.length c0_2],.int .i64 (wrap64 (a1 + 1)),.int .i64 a2] rfl (by first|rfl|simp only [z3_,z4_,z5_];try rfl) ?_;(with_reducible refine (ih k (by omega) a0_0 a0_1 _ _ l0_2 (wrap64 (a1 + 1)) a2 t102 _ ?side1 ?side2 A7.out).mono ?_);(case side1=>apply_rules only [zq HR0_2.out HB.out,zm,zn,zo]);(case side2=>exact HC0_2.out);rintro e w10 ⟨rfl,hb⟩;refine ⟨_,rfl,?_⟩;replace BK101:=za (zp (g:=gb101) (o:=.cells #[.int .i64 a0_0,.int .i64 a0_1,.slice A0_2 l0_2.length c0_2] 26 (0,0)) (by apply_rules only [BK101.out,zj,zh,zk]) hb);replace HB:=za (zl (by apply_rules only [HB.out,zc,zd,zb,zg,GE101.out]) hb))));(go_loopg [7,8] k (fun kq v7 v8 w'=>∃ (x7_1:Int) (x8_1:Int),v7=.int .i64 x7_1∧v8=.int .i64 x8_1∧Aside0 (spec_lcMost.l0 kq a1 a2 x7_1 x8_1 a0_0 a0_1 l0_2=some r)∧Aside0 (kq≤k)∧Aside0 (w'.heap[gb101]?=some (.cells #[.int .i64 a0_0,.int .i64 a0_1,(.slice A0_2 l0_2.length c0_2)] 26 (0,0)))∧Aside0 (Below w.heap.size w w')));case atStart=>exact ⟨(t102),(0),(by first|rfl|(simp;done)|(simp [*];done)),(by first|rfl|(simp;done)|(simp [*];done)),H',⟨Nat.le_refl _⟩,⟨by apply_rules only [BK101.out,zj,zh,zk]⟩,⟨by apply_rules only [HB.out,zc,zd,zb,zg,GE101.out]⟩⟩
  case round =>
   clear H';(try clear p2);(try clear c4);(try clear c4b0);(try clear c4b1);(try clear c5);(try clear p6);(try clear hcz6_0);(try clear hcz6_1);(try clear hcz6_2);(try clear hcz9_0);(try clear hcz9_1);(try clear hcz9_2);(try clear hfz6_0);(try clear hfz6_1);(try clear hfz6_2);(try clear hfz9_0);(try clear hfz9_1);(try clear hfz9_2);obtain ⟨x7_1,x8_1,rfl,rfl,HA,HK1,BK101,HB⟩:=hrel
   cases gk with
  |zero=>exact absurd HA.out (by simp [spec_lcMost.l0])
  |succ k1 =>
    have H:=HA.out;clear HA;simp only [spec_lcMost.l0] at H;by_cases c11:x8_1 < a0_1
    ·
     rw [if_pos c11] at H;have c11b0:decide (x8_1 < a0_1)=true:=decide_eq_true c11;clear c11;have HC12:=za H;clear H;have hcz13_0:wr.cell? ⟨gb101,0,none⟩=some (.int .i64 a0_0):=(ze BK101.out 0).trans rfl;have hcz13_1:wr.cell? ⟨gb101,1,none⟩=some (.int .i64 a0_1):=(ze BK101.out 1).trans rfl;have hcz13_2:wr.cell? ⟨gb101,2,none⟩=some (.slice A0_2 l0_2.length c0_2):=(ze BK101.out 2).trans rfl;have hfz13_0:=zf BK101.out 0;have hfz13_1:=zf BK101.out 1;have hfz13_2:=zf BK101.out 2;(go_upto_region 7 with (fail));go_cut [34] (fun v34 wc=>∃ (kq:Nat) (x34_11:Bool),v34=.bool x34_11∧Aside0 (spec_lcMost.j1 kq a1 a2 x7_1 x8_1 x34_11 a0_0 a0_1 l0_2=some r)∧Aside0 (kq≤k1)∧Aside0 (wc.heap[gb101]?=some (.cells #[.int .i64 a0_0,.int .i64 a0_1,(.slice A0_2 l0_2.length c0_2)] 26 (0,0)))∧Aside0 (Below w.heap.size w wc))
     case first =>
      have H:=HC12.out;clear HC12;obtain ⟨t103,A14,H⟩:=bindAside H;(try dsimp only at H);by_cases c15:t103=true
      ·
       subst c15;(have H1:(if 0≤x8_1 then (spec_lcMost.j1 k1 a1 a2 x7_1 x8_1 ((Int.tmod (shr .i64 a2 x8_1) 2) == 0) a0_0 a0_1 l0_2) else (none))=some r:=by rw [if_pos rfl] at H;exact H);clear H;have H:=H1;clear H1;by_cases c16:0≤x8_1
       · rw [if_pos c16] at H;have c16b0:=eq_true c16;have c16b1:decide (0≤x8_1)=true:=decide_eq_true c16;clear c16;obtain ⟨ji17,hji17⟩:∃ j_:Int,(shr .i64 a2 x8_1)=j_:=⟨_,rfl⟩;(replace H:(spec_lcMost.j1 k1 a1 a2 x7_1 x8_1 ((Int.tmod (ji17) 2) == 0) a0_0 a0_1 l0_2)=some r:=by first|(rw [hji17] at H;exact H)|(simp only [hji17] at H ⊢;exact H));(try rw [hji17] at A14);have hji17_:(a2 / 2 ^ min x8_1.toNat 64)=ji17:=hji17;have hji17z:x8_1≤64→(a2 / 2 ^ x8_1.toNat)=ji17:=shr_small hji17;have H':=za H;clear H;have hcz18_0:wr.cell? ⟨gb101,0,none⟩=some (.int .i64 a0_0):=(ze BK101.out 0).trans rfl;have hcz18_1:wr.cell? ⟨gb101,1,none⟩=some (.int .i64 a0_1):=(ze BK101.out 1).trans rfl;have hcz18_2:wr.cell? ⟨gb101,2,none⟩=some (.slice A0_2 l0_2.length c0_2):=(ze BK101.out 2).trans rfl;have hfz18_0:=zf BK101.out 0;have hfz18_1:=zf BK101.out 1;have hfz18_2:=zf BK101.out 2;(go_wp2_with (first|((with_reducible refine zu (f:=73) rfl ?_);refine goesL_ (some 27) rfl rfl Tryz.func73 (by kernel_rfl) rfl #[.agg #[.int .i64 a0_0,.int .i64 a0_1,.slice A0_2 l0_2.length c0_2],.int .i64 a1,.int .i64 x8_1] rfl (by first|rfl|simp only [z3_,z4_,z5_];try rfl) ?_;(with_reducible refine (spec_boHas.calls a0_0 a0_1 _ _ l0_2 a1 x8_1 true _ ?side1 ?side2 A14.out).mono ?_);(case side1=>apply_rules only [zq HR0_2.out HB.out,zm,zn,zo]);(case side2=>exact HC0_2.out);rintro e w19 ⟨rfl,hb⟩;refine ⟨_,rfl,?_⟩;replace BK101:=za (zp (g:=gb101) (o:=.cells #[.int .i64 a0_0,.int .i64 a0_1,.slice A0_2 l0_2.length c0_2] 26 (0,0)) (by apply_rules only [BK101.out,zj,zh,zk]) hb);replace HB:=za (zl (by apply_rules only [HB.out,zc,zd,zb,zg,GE101.out]) hb))));(go_meet);case rel=>exact ⟨_,(((Int.tmod (ji17) 2) == 0)),(by first|rfl|(simp;done)|(simp only [← hji17] <;> (first|rfl|simp))|(simp [*];done)),H',⟨by have:=HK1.out;first|omega|exact Nat.le_refl _⟩,⟨by apply_rules only [BK101.out,zj,zh,zk]⟩,⟨by apply_rules only [HB.out,zc,zd,zb,zg,GE101.out]⟩⟩
       · rw [if_neg c16] at H;exact absurd H (by simp)
      · replace c15:=Bool.eq_false_iff.mpr c15;subst c15;(have H1:(spec_lcMost.j1 k1 a1 a2 x7_1 x8_1 false a0_0 a0_1 l0_2)=some r:=by rw [if_neg (show ¬ (false=true) by decide)] at H;exact H);clear H;have H:=H1;clear H1;have H':=za H;clear H;have hcz20_0:wr.cell? ⟨gb101,0,none⟩=some (.int .i64 a0_0):=(ze BK101.out 0).trans rfl;have hcz20_1:wr.cell? ⟨gb101,1,none⟩=some (.int .i64 a0_1):=(ze BK101.out 1).trans rfl;have hcz20_2:wr.cell? ⟨gb101,2,none⟩=some (.slice A0_2 l0_2.length c0_2):=(ze BK101.out 2).trans rfl;have hfz20_0:=zf BK101.out 0;have hfz20_1:=zf BK101.out 1;have hfz20_2:=zf BK101.out 2;(go_wp2_with (first|((with_reducible refine zu (f:=73) rfl ?_);refine goesL_ (some 27) rfl rfl Tryz.func73 (by kernel_rfl) rfl #[.agg #[.int .i64 a0_0,.int .i64 a0_1,.slice A0_2 l0_2.length c0_2],.int .i64 a1,.int .i64 x8_1] rfl (by first|rfl|simp only [z3_,z4_,z5_];try rfl) ?_;(with_reducible refine (spec_boHas.calls a0_0 a0_1 _ _ l0_2 a1 x8_1 false _ ?side1 ?side2 A14.out).mono ?_);(case side1=>apply_rules only [zq HR0_2.out HB.out,zm,zn,zo]);(case side2=>exact HC0_2.out);rintro e w21 ⟨rfl,hb⟩;refine ⟨_,rfl,?_⟩;replace BK101:=za (zp (g:=gb101) (o:=.cells #[.int .i64 a0_0,.int .i64 a0_1,.slice A0_2 l0_2.length c0_2] 26 (0,0)) (by apply_rules only [BK101.out,zj,zh,zk]) hb);replace HB:=za (zl (by apply_rules only [HB.out,zc,zd,zb,zg,GE101.out]) hb))));(go_meet);case rel=>exact ⟨_,(false),(by first|rfl|(simp;done)|(simp [*];done)),H',⟨by have:=HK1.out;first|omega|exact Nat.le_refl _⟩,⟨by apply_rules only [BK101.out,zj,zh,zk]⟩,⟨by apply_rules only [HB.out,zc,zd,zb,zg,GE101.out]⟩⟩
     case rest =>
      clear HC12;(try clear c1);(try clear p2);(try clear c4);(try clear c4b0);(try clear c4b1);(try clear c5);(try clear p6);(try clear c7);(try clear c11);(try clear c11b0);(try clear c15);(try clear c16);(try clear c16b0);(try clear c16b1);(try clear hcz13_0);(try clear hcz13_1);(try clear hcz13_2);(try clear hcz18_0);(try clear hcz18_1);(try clear hcz18_2);(try clear hcz20_0);(try clear hcz20_1);(try clear hcz20_2);(try clear hcz6_0);(try clear hcz6_1);(try clear hcz6_2);(try clear hcz9_0);(try clear hcz9_1);(try clear hcz9_2);(try clear hfz13_0);(try clear hfz13_1);(try clear hfz13_2);(try clear hfz18_0);(try clear hfz18_1);(try clear hfz18_2);(try clear hfz20_0);(try clear hfz20_1);(try clear hfz20_2);(try clear hfz6_0);(try clear hfz6_1);(try clear hfz6_2);(try clear hfz9_0);(try clear hfz9_1);(try clear hfz9_2);(try clear p2);(try clear p6);obtain ⟨kq,x34_11,rfl,HA,HJ11,BK101,HB⟩:=hcut
      cases kq with
     |zero=>exact absurd HA.out (by simp [spec_lcMost.j1])
     |succ kj11 =>
       have H:=HA.out;clear HA;simp only [spec_lcMost.j1] at H;by_cases c22:x34_11=true
       ·
        subst c22;(have H1:(if 0≤x8_1 then ((spec_lcMost.f kj11 a0_0 a0_1 l0_2 (wrap64 (a1 + 1)) (Go.bits .or .i64 a2 (shl .i64 1 x8_1))).bind fun t104=>((spec_l1Most.f x7_1 (wrap64 (1 + t104))).bind fun t105=>(spec_lcMost.l0 kj11 a1 a2 t105 (wrap64 (x8_1 + 1)) a0_0 a0_1 l0_2))) else (none))=some r:=by rw [if_pos rfl] at H;exact H);clear H;have H:=H1;clear H1;by_cases c23:0≤x8_1
        ·
         rw [if_pos c23] at H;have c23b0:=eq_true c23;have c23b1:decide (0≤x8_1)=true:=decide_eq_true c23;clear c23;obtain ⟨ji24,hji24⟩:∃ j_:Int,(shl .i64 1 x8_1)=j_:=⟨_,rfl⟩;(replace H:((spec_lcMost.f kj11 a0_0 a0_1 l0_2 (wrap64 (a1 + 1)) (Go.bits .or .i64 a2 (ji24))).bind fun t104=>((spec_l1Most.f x7_1 (wrap64 (1 + t104))).bind fun t105=>(spec_lcMost.l0 kj11 a1 a2 t105 (wrap64 (x8_1 + 1)) a0_0 a0_1 l0_2)))=some r:=by first|(rw [hji24] at H;exact H)|(simp only [hji24] at H ⊢;exact H));have hji24_:(IntKind.i64.wrap (1 * 2 ^ min x8_1.toNat 64))=ji24:=hji24;have hji24z:x8_1≤64→(IntKind.i64.wrap (1 * 2 ^ x8_1.toNat))=ji24:=shl_small hji24;(have hji24u:(IntKind.i64.wrap (2 ^ min x8_1.toNat 64))=ji24:=by have h_:=hji24_;rw [Int.one_mul] at h_;exact h_);(have hji24v:x8_1≤64→(IntKind.i64.wrap (2 ^ x8_1.toNat))=ji24:=fun hle_=>by have h_:=hji24z hle_;rw [Int.one_mul] at h_;exact h_);have hji24y:(wrap64 (1 * 2 ^ min x8_1.toNat 64))=ji24:=(i64_w _).symm.trans hji24_;(have hji24x:x8_1≤64→(wrap64 (1 * 2 ^ x8_1.toNat))=ji24:=fun h_=>(i64_w _).symm.trans (hji24z h_));obtain ⟨t104,A25,H⟩:=bindAside H;(try dsimp only at H);obtain ⟨t105,A26,H⟩:=bindAside H;(try dsimp only at H);have H':=za H;clear H;(try go_wp2);replace BK101:=za (zh BK101.out);replace HB:=za (zb HB.out);refine start_ (n:=12) (S:=fun w'=>w'.cell? ⟨gb101,0,none⟩=some (.int .i64 a0_0)∧w'.cell? ⟨gb101,1,none⟩=some (.int .i64 a0_1)∧w'.cell? ⟨gb101,2,none⟩=some (.slice A0_2 l0_2.length c0_2)) (ds:=[]) #[false,false,false,false,false,false,false,false,false,false,false,false] (by kernel_rfl) rfl rfl ⟨(ze BK101.out 0).trans rfl,(ze BK101.out 1).trans rfl,(ze BK101.out 2).trans rfl⟩ (fun hHeld=>?_);refine with_tabW spec_lcMost.tab8 spec_lcMost.bits8 (fun HT_ HW_=>?_);generalize wc.drew=w27 at BK101 HB hHeld ⊢;refine pure_ (i:=0) (N:=some 35) (v:=?_) (a':=?_) #[true,false,false,false,false,false,false,false,false,false,false,false] rfl rfl (any_of HT_.out (by kernel_rfl)) (fun _ _ _ h=>h) (Or.inl ⟨by rfl,?_⟩) ?_ ?_;rotate_left
         · intro w';go_simp;with_reducible rfl
         rotate_left
         · simp only [Act.put,z0_,z1_,z2_,i64_w,i32_w];rfl
         refine pure_ (i:=2) (N:=some 37) (v:=?_) (a':=?_) #[true,false,true,false,false,false,false,false,false,false,false,false] rfl rfl (any_of HT_.out (by kernel_rfl)) (fun _ _ _ h=>h) (Or.inl ⟨by rfl,?_⟩) ?_ ?_;rotate_left
         · intro w';go_simp;with_reducible rfl
         rotate_left
         · simp only [Act.put,z0_,z1_,z2_,i64_w,i32_w];rfl
         refine pure_ (i:=3) (N:=some 38) (v:=?_) (a':=?_) #[true,false,true,true,false,false,false,false,false,false,false,false] rfl rfl (any_of HT_.out (by kernel_rfl)) (fun _ _ _ h=>h) (Or.inl ⟨by rfl,?_⟩) ?_ ?_;rotate_left
         · intro w';go_simp;with_reducible rfl
         rotate_left
         · simp only [Act.put,z0_,z1_,z2_,i64_w,i32_w];rfl
         refine pure_ (i:=4) (N:=some 39) (v:=?_) (a':=?_) #[true,false,true,true,true,false,false,false,false,false,false,false] rfl rfl (any_of HT_.out (by kernel_rfl)) (fun _ _ _ h=>h) (Or.inl ⟨by rfl,?_⟩) ?_ ?_;rotate_left
         · intro w';go_simp;with_reducible rfl
         rotate_left
         · simp only [Act.put,z0_,z1_,z2_,i64_w,i32_w];rfl
         refine pure_ (i:=5) (N:=some 40) (v:=?_) (a':=?_) #[true,false,true,true,true,true,false,false,false,false,false,false] rfl rfl (any_of HT_.out (by kernel_rfl)) (fun _ _ _ h=>h) (Or.inl ⟨by rfl,?_⟩) ?_ ?_;rotate_left
         · intro w';go_simp;with_reducible rfl
         rotate_left
         · simp only [Act.put,z0_,z1_,z2_,i64_w,i32_w];rfl
         refine pure_ (i:=6) (N:=some 41) (v:=?_) (a':=?_) #[true,false,true,true,true,true,true,false,false,false,false,false] rfl rfl (any_of HT_.out (by kernel_rfl)) (fun _ _ _ h=>h) (Or.inl ⟨by rfl,?_⟩) ?_ ?_;rotate_left
         · intro w';go_simp;with_reducible rfl
         rotate_left
         · simp only [Act.put,z0_,z1_,z2_,i64_w,i32_w];rfl
         refine pure_ (i:=7) (N:=some 42) (v:=?_) (a':=?_) #[true,false,true,true,true,true,true,true,false,false,false,false] rfl rfl (any_of HT_.out (by kernel_rfl)) (fun _ _ _ h=>h) (Or.inl ⟨by rfl,?_⟩) ?_ ?_;rotate_left
         · intro w';go_simp;with_reducible rfl
         rotate_left
         · simp only [Act.put,z0_,z1_,z2_,i64_w,i32_w];rfl
         refine take_ (i:=1) (N:=some 36) (v:=?_) (a':=?_) #[true,true,true,true,true,true,true,true,false,false,false,false] rfl rfl (take_ofW HT_.out HW_.out (by kernel_rfl)) (fun _ _ _ h=>h) (Or.inl ⟨by rfl,?_⟩) hHeld ?_ ?_;rotate_left
         · rintro w' ⟨s0,s1,s2⟩;go_simp;with_reducible rfl
         rotate_left
         · simp only [Act.put,z0_,z1_,z2_,i64_w,i32_w];rfl
         refine one_ (i:=8) (N:=some 43) #[true,true,true,true,true,true,true,true,true,false,false,false] rfl rfl (one_of HT_.out (by kernel_rfl)) (by decide) (fun K hK=>?_);refine goes_ Tryz.func56 (by kernel_rfl) rfl #[.agg #[.int .i64 a0_0,.int .i64 a0_1,.slice A0_2 l0_2.length c0_2],.int .i64 (wrap64 (a1 + 1)),.int .i64 (Go.bits .or .i64 a2 (ji24))] (by rfl) rfl rfl (by (try simp only [z3_,z4_,z5_]);first|done|(simp only [hji24];rfl)|rfl|(simp only [List.length_drop,List.length_take];rfl)) ?_;(with_reducible refine (ih kj11 (by have:=HK1.out;have:=HJ11.out;omega) a0_0 a0_1 _ _ l0_2 (wrap64 (a1 + 1)) (Go.bits .or .i64 a2 (ji24)) t104 _ ?side1 ?side2 A25.out).mono ?_);(case side1=>apply_rules only [zq HR0_2.out HB.out,zm,zn,zo]);(case side2=>exact HC0_2.out);rintro e w28 ⟨rfl,hb⟩;refine ⟨_,rfl,?_⟩;replace BK101:=za (zp (g:=gb101) (o:=.cells #[.int .i64 a0_0,.int .i64 a0_1,.slice A0_2 l0_2.length c0_2] 26 (0,0)) (by apply_rules only [BK101.out,zj,zh,zk]) hb);replace HB:=za (zl (by apply_rules only [HB.out,zc,zd,zb,zg,GE101.out]) hb);refine hK.out _ _ ⟨(ze BK101.out 0).trans rfl,(ze BK101.out 1).trans rfl,(ze BK101.out 2).trans rfl⟩ (fun hHeld=>?_);clear hK K;refine norm_ (a':=?_) ?_ ?_;rotate_left
         · show Act.put _ (some 43) _=_;simp only [Act.put,z0_,z1_,z2_,i64_w,i32_w];rfl
         refine pure_ (i:=9) (N:=some 44) (v:=?_) (a':=?_) #[true,true,true,true,true,true,true,true,true,true,false,false] rfl rfl (any_of HT_.out (by kernel_rfl)) (fun _ _ _ h=>h) (Or.inl ⟨by rfl,?_⟩) ?_ ?_;rotate_left
         · intro w';go_simp;with_reducible rfl
         rotate_left
         · simp only [Act.put,z0_,z1_,z2_,i64_w,i32_w];rfl
         refine one_ (i:=10) (N:=some 45) #[true,true,true,true,true,true,true,true,true,true,true,false] rfl rfl (one_of HT_.out (by kernel_rfl)) (by decide) (fun K hK=>?_);refine goes_ Tryz.func79 (by kernel_rfl) rfl #[.int .i64 x7_1,.int .i64 (wrap64 (1 + t104))] (by rfl) rfl rfl (by first|rfl|simp only [z3_,z4_,z5_];try rfl) ?_;(with_reducible refine (spec_l1Most.calls0 x7_1 (wrap64 (1 + t104)) t105 _ A26.out).mono ?_);rintro e w' ⟨rfl,rfl⟩;refine ⟨_,rfl,?_⟩;refine hK.out _ _ ⟨(ze BK101.out 0).trans rfl,(ze BK101.out 1).trans rfl,(ze BK101.out 2).trans rfl⟩ (fun hHeld=>?_);clear hK K;refine norm_ (a':=?_) ?_ ?_;rotate_left
         · show Act.put _ (some 45) _=_;simp only [Act.put,z0_,z1_,z2_,i64_w,i32_w];rfl
         refine pure_ (i:=11) (N:=some 7) (v:=?_) (a':=?_) #[true,true,true,true,true,true,true,true,true,true,true,true] rfl rfl (any_of HT_.out (by kernel_rfl)) (fun _ _ _ h=>h) (Or.inl ⟨by rfl,?_⟩) ?_ ?_;rotate_left
         · intro w';go_simp;with_reducible rfl
         rotate_left
         · simp only [Act.put,z0_,z1_,z2_,i64_w,i32_w];rfl
         refine done_ (done_of HT_.out (by kernel_rfl)) ?_;(try go_wp2);(go_roundg kj11);(case measure=>have:=HK1.out;have:=HJ11.out;omega);case rel=>exact ⟨(t105),(wrap64 (x8_1 + 1)),(by first|rfl|(simp;done)|(simp [*];done)),(by first|rfl|(simp;done)|(simp [*];done)),H',⟨by have:=HK1.out;have:=HJ11.out;omega⟩,⟨by apply_rules only [BK101.out,zj,zh,zk]⟩,⟨by apply_rules only [HB.out,zc,zd,zb,zg,GE101.out]⟩⟩
        · rw [if_neg c23] at H;exact absurd H (by simp)
       · replace c22:=Bool.eq_false_iff.mpr c22;subst c22;(have H1:(spec_lcMost.l0 kj11 a1 a2 x7_1 (wrap64 (x8_1 + 1)) a0_0 a0_1 l0_2)=some r:=by rw [if_neg (show ¬ (false=true) by decide)] at H;exact H);clear H;have H:=H1;clear H1;have H':=za H;clear H;(go_wp2);(go_roundg kj11);(case measure=>have:=HK1.out;have:=HJ11.out;omega);case rel=>exact ⟨(x7_1),(wrap64 (x8_1 + 1)),(by first|rfl|(simp;done)|(simp [*];done)),(by first|rfl|(simp;done)|(simp [*];done)),H',⟨by have:=HK1.out;have:=HJ11.out;omega⟩,⟨by apply_rules only [BK101.out,zj,zh,zk]⟩,⟨by apply_rules only [HB.out,zc,zd,zb,zg,GE101.out]⟩⟩
    · rw [if_neg c11] at H;have c11b0:decide (x8_1 < a0_1)=false:=decide_eq_false c11;clear c11;obtain rfl:=Option.some.inj H;have hcz29_0:wr.cell? ⟨gb101,0,none⟩=some (.int .i64 a0_0):=(ze BK101.out 0).trans rfl;have hcz29_1:wr.cell? ⟨gb101,1,none⟩=some (.int .i64 a0_1):=(ze BK101.out 1).trans rfl;have hcz29_2:wr.cell? ⟨gb101,2,none⟩=some (.slice A0_2 l0_2.length c0_2):=(ze BK101.out 2).trans rfl;have hfz29_0:=zf BK101.out 0;have hfz29_1:=zf BK101.out 1;have hfz29_2:=zf BK101.out 2;(go_wp2);(go_ret);exact ⟨by first|rfl|simp [*,errW_none,errW_some] <;> rfl,by repeat (first|(with_reducible first|exact HB.out|apply zc|apply zd|apply zb|refine zg ?_ GE101.out)|exact HB.out)⟩
end Go.Proofs.YtpjjeeabpaojnaaGreat.Q
end
section
namespace Go.Proofs.YtpjjeeabpaojnaaGreat.MostK
set_option linter.unusedVariables false
open Go.RowKit Go.Proofs.YtpjjeeabpaojnaaGreat.Q Go.Proofs.YtpjjeeabpaojnaaGreatW.PrintWords Go.Proofs.YtpjjeeabpaojnaaGreatW.PrintLast Go.Proofs.YtpjjeeabpaojnaaGreatW.PrintMore
open Go.Proofs.YtpjjeeabpaojnaaGreatL Go.Proofs.YtpjjeeabpaojnaaGreat.LawK Go.Proofs.YtpjjeeabpaojnaaGreat.BoardK Go.Proofs.YtpjjeeabpaojnaaGreat.LinesK Go.Proofs.YtpjjeeabpaojnaaGreat.Koenig
def mostN (l:List Int) (C:Nat):Nat→Nat→Nat→Nat
|0,_,_=>0
|d + 1,r,used=>(List.range' 0 C).foldl (fun a c=>if (cell l r c && !used.testBit c)=true then (if a > 1 + mostN l C d (r + 1) (used ||| 2 ^ c) then a else 1 + mostN l C d (r + 1) (used ||| 2 ^ c)) else a) (mostN l C d (r + 1) used)
theorem foldl_inv {α β:Type} (P:β→Prop) (s:β→α→β):∀ (l:List α) (a:β),P a→(∀ a c,c ∈ l→P a→P (s a c))→P (l.foldl s a)
|[],a,h,_=>h
|c :: t,a,h,hs=>foldl_inv P s t (s a c) (hs a c (by simp) h) (fun a c hc=>hs a c (by simp [hc]))
theorem mostN_le (l:List Int) (C:Nat):∀ d r used,mostN l C d r used≤d
|0,r,used=>Nat.le_refl _
|d + 1,r,used=>by
  rw [mostN]
  refine foldl_inv (fun a=>a≤d + 1) _ _ _ (Nat.le_succ_of_le (mostN_le l C d (r + 1) used)) ?_
  intro a c _ h
  have:=mostN_le l C d (r + 1) (used ||| 2 ^ c)
  try simp only []
  split
  ·
   split <;> omega
  ·
   exact h
theorem foldl_base (p:Nat→Bool) (g:Nat→Nat):∀ (l:List Nat) (a:Nat),a≤l.foldl (fun a c=>if p c=true then (if a > g c then a else g c) else a) a
|[],a=>Nat.le_refl _
|c :: t,a=>by
  rw [List.foldl_cons]
  refine Nat.le_trans ?_ (foldl_base p g t _)
  split
  ·
   split <;> omega
  ·
   exact Nat.le_refl _
theorem foldl_elem (p:Nat→Bool) (g:Nat→Nat):∀ (l:List Nat) (a:Nat) (c:Nat),c ∈ l→p c=true→g c≤l.foldl (fun a c=>if p c=true then (if a > g c then a else g c) else a) a
|[],a,c,h,_=>by cases h
|x :: t,a,c,h,hp=>by
  rw [List.foldl_cons]
  rcases List.mem_cons.1 h with rfl|h
  ·
   refine Nat.le_trans ?_ (foldl_base p g t _)
   rw [if_pos hp]
   split <;> omega
  ·
   exact foldl_elem p g t _ c h hp
structure From (G:Nat→Nat→Bool) (r used:Nat) (f:Nat→Option Nat):Prop where
 m:Match G f
 far:∀ q c,f q=some c→r≤q∧used.testBit c=false
theorem size_put {f:Nat→Option Nat} {r c:Nat} (hr:r < 6) (h:f r=none):size (fun q=>if q=r then some c else f q)=size f + 1:=by
 unfold size
 rw [← cnt_add (p:=fun q=>(f q).isSome) hr (by rw [h];rfl)]
 refine cnt_congr fun x _=>?_
 by_cases e:x=r
 ·
  subst e;simp
 ·
  simp [e]
theorem size_none:size (fun _=>none)=0:=cnt_false
theorem size_congr {f g:Nat→Option Nat} (h:∀ x,x < 6→f x=g x):size f=size g:=cnt_congr fun x hx=>by rw [h x hx]
theorem reach {l:List Int} {R C:Nat} (hR:R≤6) (hC:C≤6):∀ d r used,r + d=R→∃ f,From (cell l) r used f∧size f=mostN l C d r used
|0,r,used,_=>⟨fun _=>none,⟨⟨fun r c h=>(by cases h),fun r r' c h=>(by cases h)⟩,fun q c h=>(by cases h)⟩,size_none⟩
|d + 1,r,used,hd=>by
  rw [mostN]
  refine foldl_inv (fun a=>∃ f,From (cell l) r used f∧size f=a) _ _ _ ?_ ?_
  ·
   obtain ⟨f,hf,hs⟩:=reach (l:=l) hR hC d (r + 1) used (by omega)
   exact ⟨f,⟨hf.m,fun q c h=>by have:=hf.far q c h;exact ⟨by omega,this.2⟩⟩,hs⟩
  ·
   intro a c hc h
   try simp only []
   split
   ·
    rename_i hg
    rw [Bool.and_eq_true] at hg
    split
    ·
     exact h
    ·
     obtain ⟨f,hf,hs⟩:=reach (l:=l) hR hC d (r + 1) (used ||| 2 ^ c) (by omega)
     have hfr:f r=none:=by
      cases e:f r with
     |none=>rfl
     |some x=>have:=hf.far r x e;omega
     have hcC:c < C:=by have:=(List.mem_range'_1.1 hc).2;omega
     have hne:∀ q x,f q=some x→x ≠ c:=fun q x e h2=>by
      have:=(hf.far q x e).2
      rw [h2,Nat.testBit_or,Nat.testBit_two_pow] at this
      simp at this
     refine ⟨fun q=>if q=r then some c else f q,⟨⟨fun q x e=>?_,fun q q' x e e'=>?_⟩,fun q x e=>?_⟩,by rw [size_put (by omega) hfr,hs];omega⟩
     ·
      try simp only [] at e
      split at e
      ·
       rename_i hq;injection e with e;subst hq e;exact ⟨by omega,by omega,hg.1⟩
      ·
       exact hf.m.edge q x e
     ·
      try simp only [] at e e'
      split at e
      ·
       rename_i hq
       injection e with e
       split at e'
       ·
        rename_i hq';omega
       ·
        exact absurd e.symm (hne q' x e')
      ·
       split at e'
       ·
        injection e' with e';exact absurd e'.symm (hne q x e)
       ·
        exact hf.m.inj q q' x e e'
     ·
      try simp only [] at e
      split at e
      ·
       rename_i hq
       injection e with e
       subst hq e
       exact ⟨Nat.le_refl _,by simpa using hg.2⟩
      ·
       have:=hf.far q x e
       refine ⟨by omega,?_⟩
       have h2:=this.2
       rw [Nat.testBit_or] at h2
       simp at h2
       exact h2.1
   ·
    exact h
theorem bound {l:List Int} {R C:Nat} (hlR:l.length=R) (hR:R≤6) (hC:C≤6) (hb:∀ i (hi:i < l.length),0≤l[i]∧l[i] < 2 ^ C):∀ d r used f,r + d=R→From (cell l) r used f→size f≤mostN l C d r used
|0,r,used,f,hd,hf=>by
  have:size f=0:=by
   rw [← size_none]
   refine size_congr fun x hx=>?_
   cases e:f x with
  |none=>rfl
  |some c =>
    have h1:=(hf.far x c e).1
    have h2:=(hf.m.edge x c e).2.2
    unfold cell at h2
    rw [gD_ge _ _ (by omega)] at h2
    simp at h2
  omega
|d + 1,r,used,f,hd,hf=>by
  rw [mostN]
  cases e:f r with
 |none =>
   refine Nat.le_trans (bound hlR hR hC hb d (r + 1) used f (by omega) ⟨hf.m,fun q c h=>?_⟩) (foldl_base _ (fun c=>1 + mostN l C d (r + 1) (used ||| 2 ^ c)) _ _)
   have:=hf.far q c h
   refine ⟨?_,this.2⟩
   by_cases hq:q=r
   ·
    subst hq;rw [e] at h;cases h
   ·
    omega
 |some c =>
   have he:=hf.m.edge r c e
   have hu:=(hf.far r c e).2
   have hcC:c < C:=by
    by_cases h:c < C
    ·
     exact h
    ·
     have h2:=he.2.2
     unfold cell at h2
     by_cases hr:r < l.length
     ·
      rw [gD_lt _ _ hr] at h2
      have:=hb r hr
      have h3:l[r].toNat < 2 ^ C:=by
       have h4:((l[r].toNat:Nat):Int) < ((2 ^ C:Nat):Int):=by rw [Int.toNat_of_nonneg this.1];exact_mod_cast this.2
       exact_mod_cast h4
      rw [Nat.testBit_lt_two_pow (Nat.lt_of_lt_of_le h3 (Nat.pow_le_pow_right (by decide) (by omega)))] at h2
      cases h2
     ·
      rw [gD_ge _ _ (by omega)] at h2;simp at h2
   have hs:size f=size (fun q=>if q=r then none else f q) + 1:=by
    rw [← size_put (f:=fun q=>if q=r then none else f q) (r:=r) (c:=c) he.1 (by simp)]
    refine size_congr fun x _=>?_
    by_cases hx:x=r
    ·
     subst hx;simp [e]
    ·
     simp [hx]
   have ih:=bound hlR hR hC hb d (r + 1) (used ||| 2 ^ c) (fun q=>if q=r then none else f q) (by omega) ⟨⟨fun q x h=>?_,fun q q' x h h'=>?_⟩,fun q x h=>?_⟩
   ·
    have h2:=foldl_elem (fun c=>cell l r c && !used.testBit c) (fun c=>1 + mostN l C d (r + 1) (used ||| 2 ^ c)) (List.range' 0 C) (mostN l C d (r + 1) used) c (List.mem_range'_1.2 ⟨by omega,by omega⟩) (by rw [he.2.2,hu];rfl)
    try simp only [] at h2
    omega
   ·
    try simp only [] at h
    split at h
    ·
     cases h
    ·
     exact hf.m.edge q x h
   ·
    try simp only [] at h h'
    split at h
    ·
     cases h
    ·
     split at h'
     ·
      cases h'
     ·
      exact hf.m.inj q q' x h h'
   ·
    try simp only [] at h
    split at h
    ·
     cases h
    ·
     rename_i hq
     have:=hf.far q x h
     refine ⟨by omega,?_⟩
     rw [Nat.testBit_or,this.2,Nat.testBit_two_pow,Bool.false_or,decide_eq_false_iff_not]
     intro e2
     subst e2
     exact hq (hf.m.inj q r c h e)
theorem most_min {l:List Int} {R C:Nat} (hlR:l.length=R) (hR:R≤6) (hC:C≤6) (hb:∀ i (hi:i < l.length),0≤l[i]∧l[i] < 2 ^ C):(∃ S,kap (cell l) S=mostN l C R 0 0)∧∀ S,mostN l C R 0 0≤kap (cell l) S:=by
 obtain ⟨f0,S0,hM,hs⟩:=koenig _ (cell l) rfl
 obtain ⟨f,hf,hfs⟩:=reach (l:=l) (C:=C) hR hC R 0 0 (by omega)
 have h1:=weak hf.m S0
 have h2:=bound hlR hR hC hb R 0 0 f0 (by omega) ⟨hM,fun q c _=>⟨by omega,Nat.zero_testBit c⟩⟩
 refine ⟨⟨S0,by omega⟩,fun S=>?_⟩
 have h3:=weak hM S
 omega
theorem lcMost_l0 {l:List Int} {R C:Nat} (hlR:l.length=R) (hR:R≤6) (hC:C≤6) (hb:∀ i (hi:i < l.length),0≤l[i]∧l[i] < 64) (r used d:Nat) (hr:r + (d + 1)=R) (hu:used < 64) (ih:∀ used:Nat,used < 64→Ev (fun k=>spec_lcMost.f k R C l ((r + 1:Nat):Int) used) ((mostN l C d (r + 1) used:Nat):Int)) :
  ∀ (e c a:Nat),c + e=C→a≤7→Ev (fun k=>spec_lcMost.l0 k r used a c R C l) (((List.range' c e).foldl (fun a c=>if (cell l r c && !used.testBit c)=true then (if a > 1 + mostN l C d (r + 1) (used ||| 2 ^ c) then a else 1 + mostN l C d (r + 1) (used ||| 2 ^ c)) else a) a:Nat):Int)
|0,c,a,hc,ha=>by
  refine Ev.step (f:=fun _=>some (a:Int)) (fun k=>?_) (Ev.now _)
  rw [spec_lcMost.l0,if_neg (by omega)]
|e + 1,c,a,hc,ha=>by
  have w1:=Aside0.mk (show wrap64 ((c:Int) + 1)=((c + 1:Nat):Int) from by rw [w64 (by omega) (by omega)];rfl)
  have w2:=Aside0.mk (show wrap64 ((r:Int) + 1)=((r + 1:Nat):Int) from by rw [w64 (by omega) (by omega)];rfl)
  have hrl:r < l.length:=by omega
  rw [List.range'_succ,List.foldl_cons]
  have hu2:used ||| 2 ^ c < 64:=Nat.or_lt_two_pow (n:=6) hu (Nat.pow_lt_pow_right (by decide) (by omega))
  have hm:=mostN_le l C d (r + 1) (used ||| 2 ^ c)
  have ihe:=lcMost_l0 hlR hR hC hb r used d hr hu ih e (c + 1) (if (cell l r c && !used.testBit c)=true then (if a > 1 + mostN l C d (r + 1) (used ||| 2 ^ c) then a else 1 + mostN l C d (r + 1) (used ||| 2 ^ c)) else a) (by omega) (by split;split <;> omega;exact ha)
  by_cases hcell:cell l r c=true
  ·
   by_cases hbit:used.testBit c=true
   ·
    rw [hcell,hbit] at ihe ⊢
    refine Ev.step (f:=fun k=>spec_lcMost.j1 k r used a c false R C l) (fun k=>?_) ?_
    ·
     rw [spec_lcMost.l0,if_pos (by omega),boHas_f (R:Int) (C:Int) hrl (hb r hrl).1 (hb r hrl).2 (by omega),Option.bind_some,if_pos hcell,if_pos (by omega),bit_mod _ _ (by omega),if_pos hbit]
     rfl
    ·
     refine Ev.step (fun k=>?_) ihe
     rw [spec_lcMost.j1,if_neg (by simp),w1.out]
     rfl
   ·
    have hbit2:used.testBit c=false:=by simpa using hbit
    rw [hcell,hbit2] at ihe ⊢
    refine Ev.step (f:=fun k=>spec_lcMost.j1 k r used a c true R C l) (fun k=>?_) ?_
    ·
     rw [spec_lcMost.l0,if_pos (by omega),boHas_f (R:Int) (C:Int) hrl (hb r hrl).1 (hb r hrl).2 (by omega),Option.bind_some,if_pos hcell,if_pos (by omega),bit_mod _ _ (by omega),if_neg hbit]
     rfl
    ·
     refine Ev.step (f:=fun k=>(spec_lcMost.f k R C l ((r + 1:Nat):Int) ((used ||| 2 ^ c:Nat):Int)).bind fun t104=>(spec_l1Most.f a (wrap64 (1 + t104))).bind fun t105=>spec_lcMost.l0 k r used t105 ((c + 1:Nat):Int) R C l) (fun k=>?_) ?_
     ·
      rw [spec_lcMost.j1,if_pos rfl,if_pos (by omega),w1.out,w2.out,shl_one c (by omega),or_nat _ _ (by omega) (by have:2 ^ c < 2 ^ 6:=Nat.pow_lt_pow_right (by decide) (by omega);omega)]
     ·
      refine Ev.bind (ih _ hu2) ?_
      refine Ev.congr (fun k=>?_) ihe
      rw [w64 (by omega) (by omega),spec_l1Most.f]
      by_cases h:a > 1 + mostN l C d (r + 1) (used ||| 2 ^ c)
      ·
       rw [if_pos (by omega),Option.bind_some]
       simp [h]
      ·
       rw [if_neg (by omega),Option.bind_some]
       simp [h]
  ·
   have hcell2:cell l r c=false:=by simpa using hcell
   rw [hcell2] at ihe ⊢
   refine Ev.step (f:=fun k=>spec_lcMost.j1 k r used a c false R C l) (fun k=>?_) ?_
   ·
    rw [spec_lcMost.l0,if_pos (by omega),boHas_f (R:Int) (C:Int) hrl (hb r hrl).1 (hb r hrl).2 (by omega),Option.bind_some,if_neg hcell]
   ·
    refine Ev.step (fun k=>?_) ihe
    rw [spec_lcMost.j1,if_neg (by simp),w1.out]
    rfl
theorem lcMost_f {l:List Int} {R C:Nat} (hlR:l.length=R) (hR:R≤6) (hC:C≤6) (hb:∀ i (hi:i < l.length),0≤l[i]∧l[i] < 64):∀ (d r used:Nat),r + d=R→used < 64→Ev (fun k=>spec_lcMost.f k R C l r used) ((mostN l C d r used:Nat):Int)
|0,r,used,hr,hu=>by
  refine Ev.step (f:=fun _=>some 0) (fun k=>?_) (Ev.now _)
  rw [spec_lcMost.f,if_pos (by omega)]
|d + 1,r,used,hr,hu=>by
  have w2:=Aside0.mk (show wrap64 ((r:Int) + 1)=((r + 1:Nat):Int) from by rw [w64 (by omega) (by omega)];rfl)
  have ih:=fun used hu=>lcMost_f hlR hR hC hb d (r + 1) used (by omega) hu
  have hm:=mostN_le l C d (r + 1) used
  refine Ev.step (f:=fun k=>(spec_lcMost.f k R C l ((r + 1:Nat):Int) used).bind fun t102=>spec_lcMost.l0 k r used t102 0 R C l) (fun k=>?_) ?_
  ·
   rw [spec_lcMost.f,if_neg (by omega),w2.out]
  ·
   refine Ev.bind (ih used hu) ?_
   exact lcMost_l0 hlR hR hC hb r used d hr hu ih C 0 _ (by omega) (by omega)
theorem lcMost {l:List Int} {R C:Nat} (hlR:l.length=R) (hR:R≤6) (hC:C≤6) (hb:∀ i (hi:i < l.length),0≤l[i]∧l[i] < 64):Ev (fun k=>spec_lcMost.f k R C l 0 0) ((mostN l C R 0 0:Nat):Int):=lcMost_f hlR hR hC hb R 0 0 (by omega) (by decide)
end Go.Proofs.YtpjjeeabpaojnaaGreat.MostK
end
section
namespace Go.Proofs.YtpjjeeabpaojnaaGreat.Q
open Go.RowKit Go.Proofs.YtpjjeeabpaojnaaGreatW.PrintWords Go.Proofs.YtpjjeeabpaojnaaGreatW.PrintLast Go.Proofs.YtpjjeeabpaojnaaGreatW.PrintMore
attribute [local go_sem] max2_int min2_int max_two min_two max_three min_three max_four min_four   -- for this text's walks alone
set_option linter.unusedVariables false
set_option linter.unusedSimpArgs false
def bits_OnesCount64.f (a0:Int):Option (Int):=some (Go.bits .and .i64 (wrap64 (IntKind.u64.wrap ((IntKind.u64.wrap ((IntKind.u64.wrap ((Go.bits .and .u64 (IntKind.u64.wrap (((IntKind.u64.wrap ((Go.bits .and .u64 ((IntKind.u64.wrap ((Go.bits .and .u64 (a0 / 2) 6148914691236517205) + (Go.bits .and .u64 a0 6148914691236517205))) / 4) 3689348814741910323) + (Go.bits .and .u64 (IntKind.u64.wrap ((Go.bits .and .u64 (a0 / 2) 6148914691236517205) + (Go.bits .and .u64 a0 6148914691236517205))) 3689348814741910323))) / 16) + (IntKind.u64.wrap ((Go.bits .and .u64 ((IntKind.u64.wrap ((Go.bits .and .u64 (a0 / 2) 6148914691236517205) + (Go.bits .and .u64 a0 6148914691236517205))) / 4) 3689348814741910323) + (Go.bits .and .u64 (IntKind.u64.wrap ((Go.bits .and .u64 (a0 / 2) 6148914691236517205) + (Go.bits .and .u64 a0 6148914691236517205))) 3689348814741910323))))) 1085102592571150095) + ((Go.bits .and .u64 (IntKind.u64.wrap (((IntKind.u64.wrap ((Go.bits .and .u64 ((IntKind.u64.wrap ((Go.bits .and .u64 (a0 / 2) 6148914691236517205) + (Go.bits .and .u64 a0 6148914691236517205))) / 4) 3689348814741910323) + (Go.bits .and .u64 (IntKind.u64.wrap ((Go.bits .and .u64 (a0 / 2) 6148914691236517205) + (Go.bits .and .u64 a0 6148914691236517205))) 3689348814741910323))) / 16) + (IntKind.u64.wrap ((Go.bits .and .u64 ((IntKind.u64.wrap ((Go.bits .and .u64 (a0 / 2) 6148914691236517205) + (Go.bits .and .u64 a0 6148914691236517205))) / 4) 3689348814741910323) + (Go.bits .and .u64 (IntKind.u64.wrap ((Go.bits .and .u64 (a0 / 2) 6148914691236517205) + (Go.bits .and .u64 a0 6148914691236517205))) 3689348814741910323))))) 1085102592571150095) / 256))) + ((IntKind.u64.wrap ((Go.bits .and .u64 (IntKind.u64.wrap (((IntKind.u64.wrap ((Go.bits .and .u64 ((IntKind.u64.wrap ((Go.bits .and .u64 (a0 / 2) 6148914691236517205) + (Go.bits .and .u64 a0 6148914691236517205))) / 4) 3689348814741910323) + (Go.bits .and .u64 (IntKind.u64.wrap ((Go.bits .and .u64 (a0 / 2) 6148914691236517205) + (Go.bits .and .u64 a0 6148914691236517205))) 3689348814741910323))) / 16) + (IntKind.u64.wrap ((Go.bits .and .u64 ((IntKind.u64.wrap ((Go.bits .and .u64 (a0 / 2) 6148914691236517205) + (Go.bits .and .u64 a0 6148914691236517205))) / 4) 3689348814741910323) + (Go.bits .and .u64 (IntKind.u64.wrap ((Go.bits .and .u64 (a0 / 2) 6148914691236517205) + (Go.bits .and .u64 a0 6148914691236517205))) 3689348814741910323))))) 1085102592571150095) + ((Go.bits .and .u64 (IntKind.u64.wrap (((IntKind.u64.wrap ((Go.bits .and .u64 ((IntKind.u64.wrap ((Go.bits .and .u64 (a0 / 2) 6148914691236517205) + (Go.bits .and .u64 a0 6148914691236517205))) / 4) 3689348814741910323) + (Go.bits .and .u64 (IntKind.u64.wrap ((Go.bits .and .u64 (a0 / 2) 6148914691236517205) + (Go.bits .and .u64 a0 6148914691236517205))) 3689348814741910323))) / 16) + (IntKind.u64.wrap ((Go.bits .and .u64 ((IntKind.u64.wrap ((Go.bits .and .u64 (a0 / 2) 6148914691236517205) + (Go.bits .and .u64 a0 6148914691236517205))) / 4) 3689348814741910323) + (Go.bits .and .u64 (IntKind.u64.wrap ((Go.bits .and .u64 (a0 / 2) 6148914691236517205) + (Go.bits .and .u64 a0 6148914691236517205))) 3689348814741910323))))) 1085102592571150095) / 256))) / 65536))) + ((IntKind.u64.wrap ((IntKind.u64.wrap ((Go.bits .and .u64 (IntKind.u64.wrap (((IntKind.u64.wrap ((Go.bits .and .u64 ((IntKind.u64.wrap ((Go.bits .and .u64 (a0 / 2) 6148914691236517205) + (Go.bits .and .u64 a0 6148914691236517205))) / 4) 3689348814741910323) + (Go.bits .and .u64 (IntKind.u64.wrap ((Go.bits .and .u64 (a0 / 2) 6148914691236517205) + (Go.bits .and .u64 a0 6148914691236517205))) 3689348814741910323))) / 16) + (IntKind.u64.wrap ((Go.bits .and .u64 ((IntKind.u64.wrap ((Go.bits .and .u64 (a0 / 2) 6148914691236517205) + (Go.bits .and .u64 a0 6148914691236517205))) / 4) 3689348814741910323) + (Go.bits .and .u64 (IntKind.u64.wrap ((Go.bits .and .u64 (a0 / 2) 6148914691236517205) + (Go.bits .and .u64 a0 6148914691236517205))) 3689348814741910323))))) 1085102592571150095) + ((Go.bits .and .u64 (IntKind.u64.wrap (((IntKind.u64.wrap ((Go.bits .and .u64 ((IntKind.u64.wrap ((Go.bits .and .u64 (a0 / 2) 6148914691236517205) + (Go.bits .and .u64 a0 6148914691236517205))) / 4) 3689348814741910323) + (Go.bits .and .u64 (IntKind.u64.wrap ((Go.bits .and .u64 (a0 / 2) 6148914691236517205) + (Go.bits .and .u64 a0 6148914691236517205))) 3689348814741910323))) / 16) + (IntKind.u64.wrap ((Go.bits .and .u64 ((IntKind.u64.wrap ((Go.bits .and .u64 (a0 / 2) 6148914691236517205) + (Go.bits .and .u64 a0 6148914691236517205))) / 4) 3689348814741910323) + (Go.bits .and .u64 (IntKind.u64.wrap ((Go.bits .and .u64 (a0 / 2) 6148914691236517205) + (Go.bits .and .u64 a0 6148914691236517205))) 3689348814741910323))))) 1085102592571150095) / 256))) + ((IntKind.u64.wrap ((Go.bits .and .u64 (IntKind.u64.wrap (((IntKind.u64.wrap ((Go.bits .and .u64 ((IntKind.u64.wrap ((Go.bits .and .u64 (a0 / 2) 6148914691236517205) + (Go.bits .and .u64 a0 6148914691236517205))) / 4) 3689348814741910323) + (Go.bits .and .u64 (IntKind.u64.wrap ((Go.bits .and .u64 (a0 / 2) 6148914691236517205) + (Go.bits .and .u64 a0 6148914691236517205))) 3689348814741910323))) / 16) + (IntKind.u64.wrap ((Go.bits .and .u64 ((IntKind.u64.wrap ((Go.bits .and .u64 (a0 / 2) 6148914691236517205) + (Go.bits .and .u64 a0 6148914691236517205))) / 4) 3689348814741910323) + (Go.bits .and .u64 (IntKind.u64.wrap ((Go.bits .and .u64 (a0 / 2) 6148914691236517205) + (Go.bits .and .u64 a0 6148914691236517205))) 3689348814741910323))))) 1085102592571150095) + ((Go.bits .and .u64 (IntKind.u64.wrap (((IntKind.u64.wrap ((Go.bits .and .u64 ((IntKind.u64.wrap ((Go.bits .and .u64 (a0 / 2) 6148914691236517205) + (Go.bits .and .u64 a0 6148914691236517205))) / 4) 3689348814741910323) + (Go.bits .and .u64 (IntKind.u64.wrap ((Go.bits .and .u64 (a0 / 2) 6148914691236517205) + (Go.bits .and .u64 a0 6148914691236517205))) 3689348814741910323))) / 16) + (IntKind.u64.wrap ((Go.bits .and .u64 ((IntKind.u64.wrap ((Go.bits .and .u64 (a0 / 2) 6148914691236517205) + (Go.bits .and .u64 a0 6148914691236517205))) / 4) 3689348814741910323) + (Go.bits .and .u64 (IntKind.u64.wrap ((Go.bits .and .u64 (a0 / 2) 6148914691236517205) + (Go.bits .and .u64 a0 6148914691236517205))) 3689348814741910323))))) 1085102592571150095) / 256))) / 65536))) / 4294967296)))) 127)
set_option maxHeartbeats 8000000 in
set_option maxRecDepth 100000 in
theorem bits_OnesCount64.calls (a0:Int) (r:Int) (w:World) (h:bits_OnesCount64.f a0=some r) :
  Calls Tryz.prog 103 #[.int .u64 a0] w fun e w'=>e=.returned (.int .i64 r)∧Drawn0 w w':=by
 have H:(some (Go.bits .and .i64 (wrap64 (IntKind.u64.wrap ((IntKind.u64.wrap ((IntKind.u64.wrap ((Go.bits .and .u64 (IntKind.u64.wrap (((IntKind.u64.wrap ((Go.bits .and .u64 ((IntKind.u64.wrap ((Go.bits .and .u64 (a0 / 2) 6148914691236517205) + (Go.bits .and .u64 a0 6148914691236517205))) / 4) 3689348814741910323) + (Go.bits .and .u64 (IntKind.u64.wrap ((Go.bits .and .u64 (a0 / 2) 6148914691236517205) + (Go.bits .and .u64 a0 6148914691236517205))) 3689348814741910323))) / 16) + (IntKind.u64.wrap ((Go.bits .and .u64 ((IntKind.u64.wrap ((Go.bits .and .u64 (a0 / 2) 6148914691236517205) + (Go.bits .and .u64 a0 6148914691236517205))) / 4) 3689348814741910323) + (Go.bits .and .u64 (IntKind.u64.wrap ((Go.bits .and .u64 (a0 / 2) 6148914691236517205) + (Go.bits .and .u64 a0 6148914691236517205))) 3689348814741910323))))) 1085102592571150095) + ((Go.bits .and .u64 (IntKind.u64.wrap (((IntKind.u64.wrap ((Go.bits .and .u64 ((IntKind.u64.wrap ((Go.bits .and .u64 (a0 / 2) 6148914691236517205) + (Go.bits .and .u64 a0 6148914691236517205))) / 4) 3689348814741910323) + (Go.bits .and .u64 (IntKind.u64.wrap ((Go.bits .and .u64 (a0 / 2) 6148914691236517205) + (Go.bits .and .u64 a0 6148914691236517205))) 3689348814741910323))) / 16) + (IntKind.u64.wrap ((Go.bits .and .u64 ((IntKind.u64.wrap ((Go.bits .and .u64 (a0 / 2) 6148914691236517205) + (Go.bits .and .u64 a0 6148914691236517205))) / 4) 3689348814741910323) + (Go.bits .and .u64 (IntKind.u64.wrap ((Go.bits .and .u64 (a0 / 2) 6148914691236517205) + (Go.bits .and .u64 a0 6148914691236517205))) 3689348814741910323))))) 1085102592571150095) / 256))) + ((IntKind.u64.wrap ((Go.bits .and .u64 (IntKind.u64.wrap (((IntKind.u64.wrap ((Go.bits .and .u64 ((IntKind.u64.wrap ((Go.bits .and .u64 (a0 / 2) 6148914691236517205) + (Go.bits .and .u64 a0 6148914691236517205))) / 4) 3689348814741910323) + (Go.bits .and .u64 (IntKind.u64.wrap ((Go.bits .and .u64 (a0 / 2) 6148914691236517205) + (Go.bits .and .u64 a0 6148914691236517205))) 3689348814741910323))) / 16) + (IntKind.u64.wrap ((Go.bits .and .u64 ((IntKind.u64.wrap ((Go.bits .and .u64 (a0 / 2) 6148914691236517205) + (Go.bits .and .u64 a0 6148914691236517205))) / 4) 3689348814741910323) + (Go.bits .and .u64 (IntKind.u64.wrap ((Go.bits .and .u64 (a0 / 2) 6148914691236517205) + (Go.bits .and .u64 a0 6148914691236517205))) 3689348814741910323))))) 1085102592571150095) + ((Go.bits .and .u64 (IntKind.u64.wrap (((IntKind.u64.wrap ((Go.bits .and .u64 ((IntKind.u64.wrap ((Go.bits .and .u64 (a0 / 2) 6148914691236517205) + (Go.bits .and .u64 a0 6148914691236517205))) / 4) 3689348814741910323) + (Go.bits .and .u64 (IntKind.u64.wrap ((Go.bits .and .u64 (a0 / 2) 6148914691236517205) + (Go.bits .and .u64 a0 6148914691236517205))) 3689348814741910323))) / 16) + (IntKind.u64.wrap ((Go.bits .and .u64 ((IntKind.u64.wrap ((Go.bits .and .u64 (a0 / 2) 6148914691236517205) + (Go.bits .and .u64 a0 6148914691236517205))) / 4) 3689348814741910323) + (Go.bits .and .u64 (IntKind.u64.wrap ((Go.bits .and .u64 (a0 / 2) 6148914691236517205) + (Go.bits .and .u64 a0 6148914691236517205))) 3689348814741910323))))) 1085102592571150095) / 256))) / 65536))) + ((IntKind.u64.wrap ((IntKind.u64.wrap ((Go.bits .and .u64 (IntKind.u64.wrap (((IntKind.u64.wrap ((Go.bits .and .u64 ((IntKind.u64.wrap ((Go.bits .and .u64 (a0 / 2) 6148914691236517205) + (Go.bits .and .u64 a0 6148914691236517205))) / 4) 3689348814741910323) + (Go.bits .and .u64 (IntKind.u64.wrap ((Go.bits .and .u64 (a0 / 2) 6148914691236517205) + (Go.bits .and .u64 a0 6148914691236517205))) 3689348814741910323))) / 16) + (IntKind.u64.wrap ((Go.bits .and .u64 ((IntKind.u64.wrap ((Go.bits .and .u64 (a0 / 2) 6148914691236517205) + (Go.bits .and .u64 a0 6148914691236517205))) / 4) 3689348814741910323) + (Go.bits .and .u64 (IntKind.u64.wrap ((Go.bits .and .u64 (a0 / 2) 6148914691236517205) + (Go.bits .and .u64 a0 6148914691236517205))) 3689348814741910323))))) 1085102592571150095) + ((Go.bits .and .u64 (IntKind.u64.wrap (((IntKind.u64.wrap ((Go.bits .and .u64 ((IntKind.u64.wrap ((Go.bits .and .u64 (a0 / 2) 6148914691236517205) + (Go.bits .and .u64 a0 6148914691236517205))) / 4) 3689348814741910323) + (Go.bits .and .u64 (IntKind.u64.wrap ((Go.bits .and .u64 (a0 / 2) 6148914691236517205) + (Go.bits .and .u64 a0 6148914691236517205))) 3689348814741910323))) / 16) + (IntKind.u64.wrap ((Go.bits .and .u64 ((IntKind.u64.wrap ((Go.bits .and .u64 (a0 / 2) 6148914691236517205) + (Go.bits .and .u64 a0 6148914691236517205))) / 4) 3689348814741910323) + (Go.bits .and .u64 (IntKind.u64.wrap ((Go.bits .and .u64 (a0 / 2) 6148914691236517205) + (Go.bits .and .u64 a0 6148914691236517205))) 3689348814741910323))))) 1085102592571150095) / 256))) + ((IntKind.u64.wrap ((Go.bits .and .u64 (IntKind.u64.wrap (((IntKind.u64.wrap ((Go.bits .and .u64 ((IntKind.u64.wrap ((Go.bits .and .u64 (a0 / 2) 6148914691236517205) + (Go.bits .and .u64 a0 6148914691236517205))) / 4) 3689348814741910323) + (Go.bits .and .u64 (IntKind.u64.wrap ((Go.bits .and .u64 (a0 / 2) 6148914691236517205) + (Go.bits .and .u64 a0 6148914691236517205))) 3689348814741910323))) / 16) + (IntKind.u64.wrap ((Go.bits .and .u64 ((IntKind.u64.wrap ((Go.bits .and .u64 (a0 / 2) 6148914691236517205) + (Go.bits .and .u64 a0 6148914691236517205))) / 4) 3689348814741910323) + (Go.bits .and .u64 (IntKind.u64.wrap ((Go.bits .and .u64 (a0 / 2) 6148914691236517205) + (Go.bits .and .u64 a0 6148914691236517205))) 3689348814741910323))))) 1085102592571150095) + ((Go.bits .and .u64 (IntKind.u64.wrap (((IntKind.u64.wrap ((Go.bits .and .u64 ((IntKind.u64.wrap ((Go.bits .and .u64 (a0 / 2) 6148914691236517205) + (Go.bits .and .u64 a0 6148914691236517205))) / 4) 3689348814741910323) + (Go.bits .and .u64 (IntKind.u64.wrap ((Go.bits .and .u64 (a0 / 2) 6148914691236517205) + (Go.bits .and .u64 a0 6148914691236517205))) 3689348814741910323))) / 16) + (IntKind.u64.wrap ((Go.bits .and .u64 ((IntKind.u64.wrap ((Go.bits .and .u64 (a0 / 2) 6148914691236517205) + (Go.bits .and .u64 a0 6148914691236517205))) / 4) 3689348814741910323) + (Go.bits .and .u64 (IntKind.u64.wrap ((Go.bits .and .u64 (a0 / 2) 6148914691236517205) + (Go.bits .and .u64 a0 6148914691236517205))) 3689348814741910323))))) 1085102592571150095) / 256))) / 65536))) / 4294967296)))) 127))=some r:=h;clear h;obtain rfl:=Option.some.inj H;(go_enter Tryz.func103,Tryz.ntmps103);(go_wp2);(go_ret);exact ⟨by first|rfl|(simp;done)|(simp [*];done),by apply_rules only [Drawn0.refl _,Drawn0.step]⟩
def bits_OnesCount.f (a0:Int):Option (Int):=(bits_OnesCount64.f a0).bind fun t101=>(some t101)
set_option maxHeartbeats 8000000 in
set_option maxRecDepth 100000 in
theorem bits_OnesCount.calls (a0:Int) (r:Int) (w:World) (h:bits_OnesCount.f a0=some r) :
  Calls Tryz.prog 83 #[.int .u64 a0] w fun e w'=>e=.returned (.int .i64 r)∧Drawn0 w w':=by
 have H:((bits_OnesCount64.f a0).bind fun t101=>(some t101))=some r:=h;clear h;obtain ⟨t101,A2,H⟩:=bindAside H;(try dsimp only at H);obtain rfl:=Option.some.inj H;(go_enter Tryz.func83,Tryz.ntmps83);(go_wp2_with (first|((with_reducible refine zu (f:=103) rfl ?_);refine goesL_ (some 7) rfl rfl Tryz.func103 (by kernel_rfl) rfl #[.int .u64 a0] rfl (by first|rfl|simp only [z3_,z4_,z5_];try rfl) ?_;(with_reducible refine (bits_OnesCount64.calls a0 t101 _ A2.out).mono ?_);rintro e w' ⟨rfl,⟨nd,rfl⟩⟩;refine ⟨_,rfl,?_⟩)));(go_ret);exact ⟨by first|rfl|(simp;done)|(simp [*];done),by apply_rules only [Drawn0.refl _,Drawn0.step]⟩
def impl_count.f (a0:Int):Option (Int):=(bits_OnesCount.f (IntKind.u64.wrap (a0))).bind fun t101=>(some t101)
set_option maxHeartbeats 8000000 in
set_option maxRecDepth 100000 in
theorem impl_count.calls (a0:Int) (r:Int) (w:World) (h:impl_count.f a0=some r) :
  Calls Tryz.prog 58 #[.int .i64 a0] w fun e w'=>e=.returned (.int .i64 r)∧Drawn0 w w':=by
 have H:((bits_OnesCount.f (IntKind.u64.wrap (a0))).bind fun t101=>(some t101))=some r:=h;clear h;obtain ⟨t101,A2,H⟩:=bindAside H;(try dsimp only at H);obtain rfl:=Option.some.inj H;(go_enter Tryz.func58,Tryz.ntmps58);(go_wp2_with (first|((with_reducible refine zu (f:=83) rfl ?_);refine goesL_ (some 5) rfl rfl Tryz.func83 (by kernel_rfl) rfl #[.int .u64 (IntKind.u64.wrap (a0))] rfl (by first|rfl|simp only [z3_,z4_,z5_];try rfl) ?_;(with_reducible refine (bits_OnesCount.calls (IntKind.u64.wrap (a0)) t101 _ A2.out).mono ?_);rintro e w' ⟨rfl,⟨nd,rfl⟩⟩;refine ⟨_,rfl,?_⟩)));(go_ret);exact ⟨by first|rfl|(simp;done)|(simp [*];done),by apply_rules only [Drawn0.refl _,Drawn0.step]⟩
def cmp_isNaN_int.f (a0:Int):Option (Bool):=some (a0 != a0)
set_option maxHeartbeats 8000000 in
set_option maxRecDepth 100000 in
theorem cmp_isNaN_int.calls (a0:Int) (r:Bool) (w:World) (h:cmp_isNaN_int.f a0=some r) :
  Calls Tryz.prog 117 #[.int .i64 a0] w fun e w'=>e=.returned (.bool r)∧Drawn0 w w':=by
 have H:(some (a0 != a0))=some r:=h;clear h;obtain rfl:=Option.some.inj H;(go_enter Tryz.func117,Tryz.ntmps117);(go_wp2);(go_ret);exact ⟨by first|rfl|(simp;done)|(simp [*];done),by apply_rules only [Drawn0.refl _,Drawn0.step]⟩
def cmp_Compare_int.f (a0:Int) (a1:Int):Option (Int):=(cmp_isNaN_int.f a0).bind fun t101=>((cmp_isNaN_int.f a1).bind fun t102=>(if t101=true then (if t102=true then (some 0) else (some (-1))) else (if t102=true then (some 1) else (if a0 < a1 then (some (-1)) else (if a0 > a1 then (some 1) else (some 0))))))
set_option maxHeartbeats 8000000 in
set_option maxRecDepth 100000 in
theorem cmp_Compare_int.calls (a0:Int) (a1:Int) (r:Int) (w:World) (h:cmp_Compare_int.f a0 a1=some r) :
  Calls Tryz.prog 101 #[.int .i64 a0,.int .i64 a1] w fun e w'=>e=.returned (.int .i64 r)∧Drawn0 w w':=by
 have H:((cmp_isNaN_int.f a0).bind fun t101=>((cmp_isNaN_int.f a1).bind fun t102=>(if t101=true then (if t102=true then (some 0) else (some (-1))) else (if t102=true then (some 1) else (if a0 < a1 then (some (-1)) else (if a0 > a1 then (some 1) else (some 0)))))))=some r:=h;clear h;obtain ⟨t101,A3,H⟩:=bindAside H;(try dsimp only at H);obtain ⟨t102,A4,H⟩:=bindAside H;(try dsimp only at H);by_cases c5:t101=true
 ·
  subst c5;(have H1:(if t102=true then (some 0) else (some (-1)))=some r:=by rw [if_pos rfl] at H;exact H);clear H;have H:=H1;clear H1;by_cases c6:t102=true
  · subst c6;(have H1:(some 0)=some r:=by rw [if_pos rfl] at H;exact H);clear H;have H:=H1;clear H1;obtain rfl:=Option.some.inj H;(go_enter Tryz.func101,Tryz.ntmps101);(go_wp2_with (first|((with_reducible refine zu (f:=117) rfl ?_);refine goesL_ (some 8) rfl rfl Tryz.func117 (by kernel_rfl) rfl #[.int .i64 a0] rfl (by first|rfl|simp only [z3_,z4_,z5_];try rfl) ?_;(with_reducible refine (cmp_isNaN_int.calls a0 true _ A3.out).mono ?_);rintro e w' ⟨rfl,⟨nd,rfl⟩⟩;refine ⟨_,rfl,?_⟩)|((with_reducible refine zu (f:=117) rfl ?_);refine goesL_ (some 10) rfl rfl Tryz.func117 (by kernel_rfl) rfl #[.int .i64 a1] rfl (by first|rfl|simp only [z3_,z4_,z5_];try rfl) ?_;(with_reducible refine (cmp_isNaN_int.calls a1 true _ A4.out).mono ?_);rintro e w' ⟨rfl,⟨nd,rfl⟩⟩;refine ⟨_,rfl,?_⟩)));(go_ret);exact ⟨by first|rfl|(simp;done)|(simp [*];done),by apply_rules only [Drawn0.refl _,Drawn0.step]⟩
  · replace c6:=Bool.eq_false_iff.mpr c6;subst c6;(have H1:(some (-1))=some r:=by rw [if_neg (show ¬ (false=true) by decide)] at H;exact H);clear H;have H:=H1;clear H1;obtain rfl:=Option.some.inj H;(go_enter Tryz.func101,Tryz.ntmps101);(go_wp2_with (first|((with_reducible refine zu (f:=117) rfl ?_);refine goesL_ (some 8) rfl rfl Tryz.func117 (by kernel_rfl) rfl #[.int .i64 a0] rfl (by first|rfl|simp only [z3_,z4_,z5_];try rfl) ?_;(with_reducible refine (cmp_isNaN_int.calls a0 true _ A3.out).mono ?_);rintro e w' ⟨rfl,⟨nd,rfl⟩⟩;refine ⟨_,rfl,?_⟩)|((with_reducible refine zu (f:=117) rfl ?_);refine goesL_ (some 10) rfl rfl Tryz.func117 (by kernel_rfl) rfl #[.int .i64 a1] rfl (by first|rfl|simp only [z3_,z4_,z5_];try rfl) ?_;(with_reducible refine (cmp_isNaN_int.calls a1 false _ A4.out).mono ?_);rintro e w' ⟨rfl,⟨nd,rfl⟩⟩;refine ⟨_,rfl,?_⟩)));(go_ret);exact ⟨by first|rfl|(simp;done)|(simp [*];done),by apply_rules only [Drawn0.refl _,Drawn0.step]⟩
 ·
  replace c5:=Bool.eq_false_iff.mpr c5;subst c5;(have H1:(if t102=true then (some 1) else (if a0 < a1 then (some (-1)) else (if a0 > a1 then (some 1) else (some 0))))=some r:=by rw [if_neg (show ¬ (false=true) by decide)] at H;exact H);clear H;have H:=H1;clear H1;by_cases c7:t102=true
  · subst c7;(have H1:(some 1)=some r:=by rw [if_pos rfl] at H;exact H);clear H;have H:=H1;clear H1;obtain rfl:=Option.some.inj H;(go_enter Tryz.func101,Tryz.ntmps101);(go_wp2_with (first|((with_reducible refine zu (f:=117) rfl ?_);refine goesL_ (some 8) rfl rfl Tryz.func117 (by kernel_rfl) rfl #[.int .i64 a0] rfl (by first|rfl|simp only [z3_,z4_,z5_];try rfl) ?_;(with_reducible refine (cmp_isNaN_int.calls a0 false _ A3.out).mono ?_);rintro e w' ⟨rfl,⟨nd,rfl⟩⟩;refine ⟨_,rfl,?_⟩)|((with_reducible refine zu (f:=117) rfl ?_);refine goesL_ (some 10) rfl rfl Tryz.func117 (by kernel_rfl) rfl #[.int .i64 a1] rfl (by first|rfl|simp only [z3_,z4_,z5_];try rfl) ?_;(with_reducible refine (cmp_isNaN_int.calls a1 true _ A4.out).mono ?_);rintro e w' ⟨rfl,⟨nd,rfl⟩⟩;refine ⟨_,rfl,?_⟩)));(go_ret);exact ⟨by first|rfl|(simp;done)|(simp [*];done),by apply_rules only [Drawn0.refl _,Drawn0.step]⟩
  ·
   replace c7:=Bool.eq_false_iff.mpr c7;subst c7;(have H1:(if a0 < a1 then (some (-1)) else (if a0 > a1 then (some 1) else (some 0)))=some r:=by rw [if_neg (show ¬ (false=true) by decide)] at H;exact H);clear H;have H:=H1;clear H1;by_cases c8:a0 < a1
   · rw [if_pos c8] at H;have c8b0:decide (a0 < a1)=true:=decide_eq_true c8;clear c8;obtain rfl:=Option.some.inj H;(go_enter Tryz.func101,Tryz.ntmps101);(go_wp2_with (first|((with_reducible refine zu (f:=117) rfl ?_);refine goesL_ (some 8) rfl rfl Tryz.func117 (by kernel_rfl) rfl #[.int .i64 a0] rfl (by first|rfl|simp only [z3_,z4_,z5_];try rfl) ?_;(with_reducible refine (cmp_isNaN_int.calls a0 false _ A3.out).mono ?_);rintro e w' ⟨rfl,⟨nd,rfl⟩⟩;refine ⟨_,rfl,?_⟩)|((with_reducible refine zu (f:=117) rfl ?_);refine goesL_ (some 10) rfl rfl Tryz.func117 (by kernel_rfl) rfl #[.int .i64 a1] rfl (by first|rfl|simp only [z3_,z4_,z5_];try rfl) ?_;(with_reducible refine (cmp_isNaN_int.calls a1 false _ A4.out).mono ?_);rintro e w' ⟨rfl,⟨nd,rfl⟩⟩;refine ⟨_,rfl,?_⟩)));(go_ret);exact ⟨by first|rfl|(simp;done)|(simp [*];done),by apply_rules only [Drawn0.refl _,Drawn0.step]⟩
   ·
    rw [if_neg c8] at H;have c8b0:decide (a0 < a1)=false:=decide_eq_false c8;clear c8;by_cases c9:a0 > a1
    · rw [if_pos c9] at H;have c9b0:decide (a1 < a0)=true:=decide_eq_true c9;clear c9;obtain rfl:=Option.some.inj H;(go_enter Tryz.func101,Tryz.ntmps101);(go_wp2_with (first|((with_reducible refine zu (f:=117) rfl ?_);refine goesL_ (some 8) rfl rfl Tryz.func117 (by kernel_rfl) rfl #[.int .i64 a0] rfl (by first|rfl|simp only [z3_,z4_,z5_];try rfl) ?_;(with_reducible refine (cmp_isNaN_int.calls a0 false _ A3.out).mono ?_);rintro e w' ⟨rfl,⟨nd,rfl⟩⟩;refine ⟨_,rfl,?_⟩)|((with_reducible refine zu (f:=117) rfl ?_);refine goesL_ (some 10) rfl rfl Tryz.func117 (by kernel_rfl) rfl #[.int .i64 a1] rfl (by first|rfl|simp only [z3_,z4_,z5_];try rfl) ?_;(with_reducible refine (cmp_isNaN_int.calls a1 false _ A4.out).mono ?_);rintro e w' ⟨rfl,⟨nd,rfl⟩⟩;refine ⟨_,rfl,?_⟩)));(go_ret);exact ⟨by first|rfl|(simp;done)|(simp [*];done),by apply_rules only [Drawn0.refl _,Drawn0.step]⟩
    · rw [if_neg c9] at H;have c9b0:decide (a1 < a0)=false:=decide_eq_false c9;clear c9;obtain rfl:=Option.some.inj H;(go_enter Tryz.func101,Tryz.ntmps101);(go_wp2_with (first|((with_reducible refine zu (f:=117) rfl ?_);refine goesL_ (some 8) rfl rfl Tryz.func117 (by kernel_rfl) rfl #[.int .i64 a0] rfl (by first|rfl|simp only [z3_,z4_,z5_];try rfl) ?_;(with_reducible refine (cmp_isNaN_int.calls a0 false _ A3.out).mono ?_);rintro e w' ⟨rfl,⟨nd,rfl⟩⟩;refine ⟨_,rfl,?_⟩)|((with_reducible refine zu (f:=117) rfl ?_);refine goesL_ (some 10) rfl rfl Tryz.func117 (by kernel_rfl) rfl #[.int .i64 a1] rfl (by first|rfl|simp only [z3_,z4_,z5_];try rfl) ?_;(with_reducible refine (cmp_isNaN_int.calls a1 false _ A4.out).mono ?_);rintro e w' ⟨rfl,⟨nd,rfl⟩⟩;refine ⟨_,rfl,?_⟩)));(go_ret);exact ⟨by first|rfl|(simp;done)|(simp [*];done),by apply_rules only [Drawn0.refl _,Drawn0.step]⟩
def slices_Compare_int_int.l0:Nat→List Int→List Int→List Int→Int→Int→Option (Int)
|0,_,_,_,_,_=>none
|k + 1,x0,x1,x9,x10,x11=>if x11 < x10 then (if 0≤x11 then (if x11 < (x9.length:Int) then (if x11 ≥ (x1.length:Int) then (some 1) else (if x11 < (x1.length:Int) then ((cmp_Compare_int.f (rd x9 x11) (rd x1 x11)).bind fun t103=>(if t103=0 then (slices_Compare_int_int.l0 k x0 x1 x9 x10 (wrap64 (x11 + 1))) else (some t103))) else (none))) else (none)) else (none)) else (if (x0.length:Int) < (x1.length:Int) then (some (-1)) else (some 0))
def slices_Compare_int_int.f (k:Nat) (l0:List Int) (l1:List Int):Option (Int):=slices_Compare_int_int.l0 k l0 l1 l0 (l0.length:Int) 0
set_option maxHeartbeats 8000000 in
set_option maxRecDepth 100000 in
theorem slices_Compare_int_int.calls (k:Nat) (A0:Option Addr) (c0:Nat) (l0:List Int) (A1:Option Addr) (c1:Nat) (l1:List Int) (r:Int) (w:World) (hr0:Kd.C (Kd.int .i64) w A0 l0.length l0) (hc0:l0.length≤c0) (hr1:Kd.C (Kd.int .i64) w A1 l1.length l1) (hc1:l1.length≤c1) (h:slices_Compare_int_int.f k l0 l1=some r) :
  Calls Tryz.prog 82 #[.slice A0 l0.length c0,.slice A1 l1.length c1] w fun e w'=>e=.returned (.int .i64 r)∧Drawn0 w w':=by
 have HR0:=za hr0;have HC0:=za hc0;clear hr0 hc0;have HR1:=za hr1;have HC1:=za hc1;clear hr1 hc1;have H:(slices_Compare_int_int.l0 k l0 l1 l0 (l0.length:Int) 0)=some r:=h;clear h;have H':=za H;clear H;(go_enter Tryz.func82,Tryz.ntmps82);(go_wp2);(go_loopg [11] k (fun kq v11 w'=>∃ (x11_1:Int),v11=.int .i64 x11_1∧Aside0 (slices_Compare_int_int.l0 kq l0 l1 l0 (l0.length:Int) x11_1=some r)∧Aside0 (kq≤k)∧Drawn0 w w'));case atStart=>exact ⟨(0),(by first|rfl|(simp;done)|(simp [*];done)),H',⟨Nat.le_refl _⟩,by apply_rules only [Drawn0.refl _,Drawn0.step]⟩
 case round =>
  clear H';(try clear c1);(try clear p2);obtain ⟨x11_1,rfl,HA,HK1,⟨m1,rfl⟩⟩:=hrel
  cases gk with
 |zero=>exact absurd HA.out (by simp [slices_Compare_int_int.l0])
 |succ k1 =>
   have H:=HA.out;clear HA;simp only [slices_Compare_int_int.l0] at H;by_cases c3:x11_1 < (l0.length:Int)
   ·
    rw [if_pos c3] at H;have c3b0:decide (x11_1 < (l0.length:Int))=true:=decide_eq_true c3;clear c3;by_cases c4:0≤x11_1
    ·
     rw [if_pos c4] at H;have c4b0:decide (0≤x11_1)=true:=decide_eq_true c4;clear c4;by_cases c5:x11_1 < (l0.length:Int)
     ·
      rw [if_pos c5] at H;have c5b0:decide (x11_1 < (l0.length:Int))=true:=decide_eq_true c5;clear c5;by_cases c6:x11_1 ≥ (l1.length:Int)
      · rw [if_pos c6] at H;have c6b0:decide ((l1.length:Int)≤x11_1)=true:=decide_eq_true c6;clear c6;obtain rfl:=Option.some.inj H;have p101:0≤(x11_1:Int):=of_decide_eq_true ‹_›;have q101:x11_1 < (l0.length:Int):=of_decide_eq_true ‹_›;obtain ⟨ad101,e101,hx101_0⟩:=zx HR0.out x11_1 p101 q101;cases e101;replace p101:=eq_true p101;replace q101:=eq_true q101;(go_wp2);(go_ret);exact ⟨by first|rfl|(simp;done)|(simp [*];done),by apply_rules only [Drawn0.refl _,Drawn0.step]⟩
      ·
       rw [if_neg c6] at H;have c6b0:decide ((l1.length:Int)≤x11_1)=false:=decide_eq_false c6;clear c6;by_cases c7:x11_1 < (l1.length:Int)
       ·
        rw [if_pos c7] at H;have c7b0:decide (x11_1 < (l1.length:Int))=true:=decide_eq_true c7;clear c7;obtain ⟨t103,A8,H⟩:=bindAside H;(try dsimp only at H);by_cases c9:t103=0
        · rw [if_pos c9] at H;have c9b0:(t103 == 0)=true:=beq_iff_eq.mpr c9;have c9b1:(t103 != 0)=false:=bne_eq_false_iff_eq.mpr c9;clear c9;have H':=za H;clear H;have p101:0≤(x11_1:Int):=of_decide_eq_true ‹_›;have q101:x11_1 < (l0.length:Int):=of_decide_eq_true ‹_›;obtain ⟨ad101,e101,hx101_0⟩:=zx HR0.out x11_1 p101 q101;cases e101;replace p101:=eq_true p101;replace q101:=eq_true q101;have p102:0≤(x11_1:Int):=of_decide_eq_true ‹_›;have q102:x11_1 < (l1.length:Int):=of_decide_eq_true ‹_›;obtain ⟨ad102,e102,hx102_0⟩:=zx HR1.out x11_1 p102 q102;cases e102;replace p102:=eq_true p102;replace q102:=eq_true q102;(go_wp2_with (first|((with_reducible refine zu (f:=101) rfl ?_);refine goesL_ (some 26) rfl rfl Tryz.func101 (by kernel_rfl) rfl #[.int .i64 (rd l0 x11_1),.int .i64 (rd l1 x11_1)] rfl (by first|rfl|simp only [z3_,z4_,z5_];try rfl) ?_;(with_reducible refine (cmp_Compare_int.calls (rd l0 x11_1) (rd l1 x11_1) t103 _ A8.out).mono ?_);rintro e w' ⟨rfl,⟨nd,rfl⟩⟩;refine ⟨_,rfl,?_⟩)));(go_roundg k1);(case measure=>have:=HK1.out;omega);case rel=>exact ⟨(wrap64 (x11_1 + 1)),(by first|rfl|(simp;done)|(simp [*];done)),H',⟨by have:=HK1.out;omega⟩,by apply_rules only [Drawn0.refl _,Drawn0.step]⟩
        · rw [if_neg c9] at H;have c9b0:(t103 == 0)=false:=beq_eq_false_iff_ne.mpr c9;have c9b1:(t103 != 0)=true:=bne_iff_ne.mpr c9;obtain rfl:=Option.some.inj H;have p101:0≤(x11_1:Int):=of_decide_eq_true ‹_›;have q101:x11_1 < (l0.length:Int):=of_decide_eq_true ‹_›;obtain ⟨ad101,e101,hx101_0⟩:=zx HR0.out x11_1 p101 q101;cases e101;replace p101:=eq_true p101;replace q101:=eq_true q101;have p102:0≤(x11_1:Int):=of_decide_eq_true ‹_›;have q102:x11_1 < (l1.length:Int):=of_decide_eq_true ‹_›;obtain ⟨ad102,e102,hx102_0⟩:=zx HR1.out x11_1 p102 q102;cases e102;replace p102:=eq_true p102;replace q102:=eq_true q102;(go_wp2_with (first|((with_reducible refine zu (f:=101) rfl ?_);refine goesL_ (some 26) rfl rfl Tryz.func101 (by kernel_rfl) rfl #[.int .i64 (rd l0 x11_1),.int .i64 (rd l1 x11_1)] rfl (by first|rfl|simp only [z3_,z4_,z5_];try rfl) ?_;(with_reducible refine (cmp_Compare_int.calls (rd l0 x11_1) (rd l1 x11_1) t103 _ A8.out).mono ?_);rintro e w' ⟨rfl,⟨nd,rfl⟩⟩;refine ⟨_,rfl,?_⟩)));(go_ret);exact ⟨by first|rfl|(simp;done)|(simp [*];done),by apply_rules only [Drawn0.refl _,Drawn0.step]⟩
       · rw [if_neg c7] at H;exact absurd H (by simp)
     · rw [if_neg c5] at H;exact absurd H (by simp)
    · rw [if_neg c4] at H;exact absurd H (by simp)
   ·
    rw [if_neg c3] at H;have c3b0:decide (x11_1 < (l0.length:Int))=false:=decide_eq_false c3;clear c3;by_cases c10:(l0.length:Int) < (l1.length:Int)
    · rw [if_pos c10] at H;have c10b0:decide ((l0.length:Int) < (l1.length:Int))=true:=decide_eq_true c10;have c10b1:decide (l0.length < l1.length)=true:=decide_eq_true (Int.ofNat_lt.mp c10);clear c10;obtain rfl:=Option.some.inj H;(go_wp2);(go_ret);exact ⟨by first|rfl|(simp;done)|(simp [*];done),by apply_rules only [Drawn0.refl _,Drawn0.step]⟩
    · rw [if_neg c10] at H;have c10b0:decide ((l0.length:Int) < (l1.length:Int))=false:=decide_eq_false c10;have c10b1:decide (l0.length < l1.length)=false:=decide_eq_false (fun h=>c10 (Int.ofNat_lt.mpr h));clear c10;obtain rfl:=Option.some.inj H;(go_wp2);(go_ret);exact ⟨by first|rfl|(simp;done)|(simp [*];done),by apply_rules only [Drawn0.refl _,Drawn0.step]⟩
def spec_l1Own.f (l0:List Int):Option (List Int):=(some (([]:List Int):List Int)).bind fun y101=>(if y101.length + l0.length < 17592186044416 then (some (y101 ++ l0)) else (none))
set_option maxHeartbeats 8000000 in
set_option maxRecDepth 100000 in
theorem spec_l1Own.calls (A0:Option Addr) (c0:Nat) (l0:List Int) (r:List Int) (w:World) (hr0:Kd.C (Kd.int .i64) w A0 l0.length l0) (hc0:l0.length≤c0) (h:spec_l1Own.f l0=some r) :
  Calls Tryz.prog 44 #[.slice A0 l0.length c0] w fun e w'=>∃ v0_:Value,e=.returned (v0_)∧Kd.R (Kd.int .i64) 3 w' w.heap.size (fun _=>True) v0_ r∧Below w.heap.size w w':=by
 have HR0:=za hr0;have HC0:=za hc0;clear hr0 hc0;have HB:=za (Below.refl w.heap.size w);have H:((some (([]:List Int):List Int)).bind fun y101=>(if y101.length + l0.length < 17592186044416 then (some (y101 ++ l0)) else (none)))=some r:=h;clear h;obtain ⟨y101,hy101⟩:∃ y_:List Int,y_=(([]:List Int)):=⟨_,rfl⟩;(replace H:(if y101.length + l0.length < 17592186044416 then (some (y101 ++ l0)) else (none))=some r:=by first|(rw [hy101];with_reducible exact H)|(have H2_:=(Option.bind_some _ _).symm.trans H;rw [hy101];with_reducible exact H2_)|(have H2_:=(Option.bind_some _ _).symm.trans H;with_reducible exact H2_)|with_reducible exact H|(rw [hy101];exact H)|exact H);have Ny101:=za hy101;clear hy101;by_cases c2:y101.length + l0.length < 17592186044416
 · rw [if_pos c2] at H;have LMc2:=za c2;clear c2;obtain ⟨y104,hy104⟩:∃ y_:List Int,y_=(y101 ++ l0):=⟨_,rfl⟩;(replace H:(some y104)=some r:=by first|(rw [hy104];with_reducible exact H)|(have H2_:=(Option.bind_some _ _).symm.trans H;rw [hy104];with_reducible exact H2_)|(have H2_:=(Option.bind_some _ _).symm.trans H;with_reducible exact H2_)|with_reducible exact H|(rw [hy104];exact H)|exact H);have Ny104:=za hy104;clear hy104;obtain rfl:=Option.some.inj H;(go_enter Tryz.func44,Tryz.ntmps44);(go_wp2_with (first|((with_reducible refine zv (N:=3) rfl ?_);refine Kd.R_lit (Kd.int .i64) _ 3 ?hg (N:=3) ?hd (xs:=([]:List Int)) (inner:=[]) (ok:=fun _=>True) (okp:=fun _=>True) ?hr ?hp (fun _ hk=>hk) trivial (Below.refl _ _) (Nat.le_refl _) (by simp) ?_;(case hd=>rfl);(case hg=>rfl);(case hr=>first|(go_simp;done)|(go_simp;rfl));(case hp=>exact (Reps.none _ _));intro v102 w3 ho4 hb hg_ hnew_;clear hg_ hnew_;(first|rw [← Ny101.out] at ho4|(simp only [Int.reduceToNat] at ho4;rw [← Ny101.out] at ho4));have HO103:=za (Kd.R_lower ho4 (zi (by apply_rules only [HB.out,zc,zd,zb])));replace HB:=za (zl (by apply_rules only [HB.out,zc,zd,zb]) hb);clear hb ho4)|((with_reducible refine gate_builtin (b:=.append) (xs:=#[.tmp 3,.tmp 4]) rfl ?_);at_builtin;refine Kd.R_append_rows (Kd.int .i64) (w0:=w) w.heap.size rfl (.tmp 3) (.tmp 4) 24 3 (.int .i64 0) 8 rfl Tryz.underlying24 info3 rfl (by decide) (by omega) v102 y101 l0 _ _ _ (fun _=>True) (fun _=>False) rfl rfl ?aO ?aR (fun _ _ h=>h) (fun _ h=>h.elim) ?aF ?aB ?aS ?aL ?_;(case aR=>apply_rules only [zq HR0.out HB.out,zm,zn,zo]);(case aB=>exact (by apply_rules only [HB.out,zc,zd,zb]));(case aF=>exact (fun _ _=>trivial));(case aO=>exact (by apply_rules only [HO103.out,zs,zt,zr]));(case aS=>exact (zi (by apply_rules only [HB.out,zc,zd,zb])));(case aL=>have:=LMc2.out;omega);intro v105 w5 ho hb hg hat;rw [← Ny104.out] at ho;replace HB:=za (hb);have HO106:=za (ho);clear HO103;clear ho hb hg hat)));(go_ret);exact ⟨_,by first|rfl|simp [*,errW_none,errW_some] <;> rfl,by (with_reducible repeat (first|apply zs|apply zt|apply zr));exact HO106.out,by repeat (first|(with_reducible first|exact HB.out|apply zc|apply zd|apply zb)|exact HB.out)⟩
 · rw [if_neg c2] at H;exact absurd H (by simp)
mutual
def spec_lcChosen.j0:Nat→Int→Int→List Int→Int→Option ((List (List Int)))
|0,_,_,_,_=>none
|k + 1,x0,x1,x2,x7=>spec_lcChosen.l0 k x0 x1 x2 x7 ([]:List (List Int))
def spec_lcChosen.l0:Nat→Int→Int→List Int→Int→List (List Int)→Option ((List (List Int)))
|0,_,_,_,_,_=>none
|k + 1,x0,x1,x2,x7,x8=>if x7 < x0 then ((spec_l1Own.f x2).bind fun t108=>(if t108.length < 17592186044416 then ((spec_lcChosen.f k x0 x1 (t108 ++ [x7])).bind fun t114=>(if x8.length + t114.length < 5864062014805 then (spec_lcChosen.l0 k x0 x1 x2 (wrap64 (x7 + 1)) (x8 ++ t114)) else (none))) else (none))) else (some x8)
def spec_lcChosen.f:Nat→Int→Int→List Int→Option ((List (List Int)))
|0,_,_,_=>none
|k + 1,a0,a1,l2=>if (l2.length:Int)=a1 then ((spec_l1Own.f l2).bind fun t101=>(some (([t101]:List (List Int))))) else (if (l2.length:Int) > 0 then (if 0≤(wrap64 ((l2.length:Int) - 1)) then (if (wrap64 ((l2.length:Int) - 1)) < (l2.length:Int) then (spec_lcChosen.j0 k a0 a1 l2 (wrap64 ((rd l2 (wrap64 ((l2.length:Int) - 1))) + 1))) else (none)) else (none)) else (spec_lcChosen.j0 k a0 a1 l2 0))
end
theorem spec_lcChosen.mono_l:∀ k,(∀ y0 y1 y2,LeO (spec_lcChosen.f k y0 y1 y2) (spec_lcChosen.f (k + 1) y0 y1 y2))∧(∀ y0 y1 y2 y3,LeO (spec_lcChosen.j0 k y0 y1 y2 y3) (spec_lcChosen.j0 (k + 1) y0 y1 y2 y3))∧(∀ y0 y1 y2 y3 y4,LeO (spec_lcChosen.l0 k y0 y1 y2 y3 y4) (spec_lcChosen.l0 (k + 1) y0 y1 y2 y3 y4))
|0=>⟨fun _ _ _ r h=>by simp [spec_lcChosen.f] at h,fun _ _ _ _ r h=>by simp [spec_lcChosen.j0] at h,fun _ _ _ _ _ r h=>by simp [spec_lcChosen.l0] at h⟩
|k + 1=>by
  obtain ⟨ih0,ih1,ih2⟩:=spec_lcChosen.mono_l k
  refine ⟨?_,?_,?_⟩
  ·
   intro y0 y1 y2
   unfold spec_lcChosen.f
   repeat' first
  |(with_reducible exact ih0 _ _ _)
  |(with_reducible exact ih1 _ _ _ _)
  |(with_reducible exact ih2 _ _ _ _ _)
  |(with_reducible exact LeO.refl _)
  |(with_reducible exact LeO.none _)
  |(with_reducible refine LeO.ite ?_ ?_)
  |(with_reducible refine LeO.bind ?_ (fun _=>?_))
  |exact ih0 _ _ _
  |exact ih1 _ _ _ _
  |exact ih2 _ _ _ _ _
  |exact LeO.none _
  |refine LeO.ite ?_ ?_
  |refine LeO.bind ?_ (fun _=>?_)
  ·
   intro y0 y1 y2 y3
   unfold spec_lcChosen.j0
   repeat' first
  |(with_reducible exact ih0 _ _ _)
  |(with_reducible exact ih1 _ _ _ _)
  |(with_reducible exact ih2 _ _ _ _ _)
  |(with_reducible exact LeO.refl _)
  |(with_reducible exact LeO.none _)
  |(with_reducible refine LeO.ite ?_ ?_)
  |(with_reducible refine LeO.bind ?_ (fun _=>?_))
  |exact ih0 _ _ _
  |exact ih1 _ _ _ _
  |exact ih2 _ _ _ _ _
  |exact LeO.none _
  |refine LeO.ite ?_ ?_
  |refine LeO.bind ?_ (fun _=>?_)
  ·
   intro y0 y1 y2 y3 y4
   unfold spec_lcChosen.l0
   repeat' first
  |(with_reducible exact ih0 _ _ _)
  |(with_reducible exact ih1 _ _ _ _)
  |(with_reducible exact ih2 _ _ _ _ _)
  |(with_reducible exact LeO.refl _)
  |(with_reducible exact LeO.none _)
  |(with_reducible refine LeO.ite ?_ ?_)
  |(with_reducible refine LeO.bind ?_ (fun _=>?_))
  |exact ih0 _ _ _
  |exact ih1 _ _ _ _
  |exact ih2 _ _ _ _ _
  |exact LeO.none _
  |refine LeO.ite ?_ ?_
  |refine LeO.bind ?_ (fun _=>?_)
theorem spec_lcChosen.mono:∀ a0 a1 a2 k,LeO (spec_lcChosen.f k a0 a1 a2) (spec_lcChosen.f (k + 1) a0 a1 a2):=by
 intro a0 a1 a2 k;obtain ⟨ih0,ih1,ih2⟩:=spec_lcChosen.mono_l k;exact ih0 a0 a1 a2
set_option maxHeartbeats 8000000 in
set_option maxRecDepth 100000 in
theorem spec_lcChosen.calls (k:Nat):∀ (a0:Int) (a1:Int) (A2:Option Addr) (c2:Nat) (l2:List Int) (r:List (List Int)) (w:World) (hr2:Kd.C (Kd.int .i64) w A2 l2.length l2) (hc2:l2.length≤c2) (h:spec_lcChosen.f k a0 a1 l2=some r),
  Calls Tryz.prog 84 #[.int .i64 a0,.int .i64 a1,.slice A2 l2.length c2] w fun e w'=>∃ v0_:Value,e=.returned (v0_)∧Kd.N (Kd.slice 3 (Kd.int .i64)) 24 w' w.heap.size (fun k_=>(w.heap.size≤k_)) v0_ r∧Below w.heap.size w w':=by
 induction k using Nat.strongRecOn with
|_ k ih =>
 intro a0 a1 A2 c2 l2 r w hr2 hc2 h
 cases k with
|zero=>exact absurd h (by simp [spec_lcChosen.f])
|succ k =>
 simp only [spec_lcChosen.f] at h;have HR2:=za hr2;have HC2:=za hc2;clear hr2 hc2;have HB:=za (Below.refl w.heap.size w);have H:(if (l2.length:Int)=a1 then ((spec_l1Own.f l2).bind fun t101=>(some (([t101]:List (List Int))))) else (if (l2.length:Int) > 0 then (if 0≤(wrap64 ((l2.length:Int) - 1)) then (if (wrap64 ((l2.length:Int) - 1)) < (l2.length:Int) then (spec_lcChosen.j0 k a0 a1 l2 (wrap64 ((rd l2 (wrap64 ((l2.length:Int) - 1))) + 1))) else (none)) else (none)) else (spec_lcChosen.j0 k a0 a1 l2 0)))=some r:=h;clear h;by_cases c4:(l2.length:Int)=a1
 · rw [if_pos c4] at H;have c4b0:((l2.length:Int) == a1)=true:=beq_iff_eq.mpr c4;have c4b1:((l2.length:Int) != a1)=false:=bne_eq_false_iff_eq.mpr c4;clear c4;obtain ⟨t101,A5,H⟩:=bindAside H;(try dsimp only at H);obtain ⟨y104,hy104⟩:∃ y_:List (List Int),y_=(([t101]:List (List Int))):=⟨_,rfl⟩;(replace H:(some y104)=some r:=by first|(rw [hy104];with_reducible exact H)|(have H2_:=(Option.bind_some _ _).symm.trans H;rw [hy104];with_reducible exact H2_)|(have H2_:=(Option.bind_some _ _).symm.trans H;with_reducible exact H2_)|with_reducible exact H|(rw [hy104];exact H)|exact H);have Ny104:=za hy104;clear hy104;obtain rfl:=Option.some.inj H;(go_enter Tryz.func84,Tryz.ntmps84);(go_wp2_with (first|((with_reducible refine zu (f:=44) rfl ?_);refine goesL_ (some 14) rfl rfl Tryz.func44 (by kernel_rfl) rfl #[.slice A2 l2.length c2] rfl (by first|rfl|simp only [z3_,z4_,z5_];try rfl) ?_;(with_reducible refine (spec_l1Own.calls _ _ l2 t101 _ ?side1 ?side2 A5.out).mono ?_);(case side1=>apply_rules only [HR2.out,zm,zn,zo]);(case side2=>exact HC2.out);rintro e w6 ⟨v102,rfl,ho0,hb⟩;refine ⟨_,rfl,?_⟩;have HO103:=za (Kd.R_lower (Kd.R_newM (M:=fun k_=>(w.heap.size≤k_)) ho0 (zi (by apply_rules only [HB.out,zc,zd,zb])) (fun k_ h_=>h_)) (zi (by apply_rules only [HB.out,zc,zd,zb])));replace HB:=za (zl (by apply_rules only [HB.out,zc,zd,zb]) hb);obtain ⟨Ao7,co7,eo7⟩:=Kd.R_slice HO103.out;subst eo7)|((with_reducible refine zv (N:=15) rfl ?_);refine Kd.N_lit (Kd.slice 3 (Kd.int .i64)) _ 24 ?hg (N':=15) ?hd (xs:=([t101]:List (List Int))) (inner:=[.slice Ao7 t101.length co7]) (ok:=(fun k_=>(w.heap.size≤k_))) (okp:=(fun k_=>(w.heap.size≤k_))) ?hr ?hp (fun _ hk=>hk) ((show ∀ k_,w6.heap.size≤k_→(fun k_=>(w.heap.size≤k_)) k_ from fun k_ hk=>(Nat.le_trans (zi (by apply_rules only [HB.out,zc,zd,zb])) hk)) _ (Nat.le_refl _)) (Below.refl _ _) (Nat.le_refl _) (by simp) ?_;(case hd=>rfl);(case hg=>rfl);(case hr=>first|(go_simp;done)|(go_simp;rfl));(case hp=>exact (Reps.one (show Kd.FK (Kd.slice 3 (Kd.int .i64)) _ _ t101 [.slice Ao7 t101.length co7] from (Kd.FK_slice_mk (Kd.R_reads' (Kd.R_mono (ok':=(fun k_=>(w.heap.size≤k_))) (HO103.out) (fun k_ hk=>hk.1))).2.1 (Kd.R_F (Kd.R_mono (ok':=(fun k_=>(w.heap.size≤k_))) (HO103.out) (fun k_ hk=>hk.1))))) (Reps.none _ _)));intro v105 w8 ho9 hb hg_ hnew_;clear hg_ hnew_;(first|rw [← Ny104.out] at ho9|(simp only [Int.reduceToNat] at ho9;rw [← Ny104.out] at ho9));have HO106:=za (Kd.N_lower ho9 (zi (by apply_rules only [HB.out,zc,zd,zb])));replace HB:=za (zl (by apply_rules only [HB.out,zc,zd,zb]) hb);clear HO103;clear hb ho9)));(go_ret);exact ⟨_,by first|rfl|simp [*,errW_none,errW_some] <;> rfl,by (with_reducible repeat (first|apply zz|apply zA|apply zy));exact HO106.out,by repeat (first|(with_reducible first|exact HB.out|apply zc|apply zd|apply zb)|exact HB.out)⟩
 ·
  rw [if_neg c4] at H;have c4b0:((l2.length:Int) == a1)=false:=beq_eq_false_iff_ne.mpr c4;have c4b1:((l2.length:Int) != a1)=true:=bne_iff_ne.mpr c4;have HC10:=za H;clear H;(go_enter Tryz.func84,Tryz.ntmps84);(go_upto_if 18 with (fail));go_cut [7] (fun v7 wc=>∃ (kq:Nat) (x7_9:Int),v7=.int .i64 x7_9∧Aside0 (spec_lcChosen.j0 kq a0 a1 l2 x7_9=some r)∧Aside0 (kq≤k)∧Aside0 (Below w.heap.size w wc))
  case first =>
   have H:=HC10.out;clear HC10;by_cases c11:(l2.length:Int) > 0
   ·
    rw [if_pos c11] at H;have c11b0:decide (0 < (l2.length:Int))=true:=decide_eq_true c11;have c11b1:decide (0 < l2.length)=true:=decide_eq_true (by omega);clear c11;(first|rw [c11b0]|rw [c11b1]|(simp only [i64_w,i32_w];rw [c11b0])|skip);obtain ⟨ji12,hji12⟩:∃ j_:Int,(wrap64 ((l2.length:Int) - 1))=j_:=⟨_,rfl⟩;(replace H:(if 0≤(ji12) then (if (ji12) < (l2.length:Int) then (spec_lcChosen.j0 k a0 a1 l2 (wrap64 ((rd l2 (ji12)) + 1))) else (none)) else (none))=some r:=by first|(rw [hji12] at H;exact H)|(simp only [hji12] at H ⊢;exact H));have hji12w:(IntKind.i64.wrap ((l2.length:Int) - 1))=ji12:=(i64_w _).trans hji12;by_cases c13:0≤(ji12)
    ·
     rw [if_pos c13] at H;have c13b0:decide (0≤(ji12))=true:=decide_eq_true c13;clear c13;by_cases c14:(ji12) < (l2.length:Int)
     · rw [if_pos c14] at H;have c14b0:decide ((ji12) < (l2.length:Int))=true:=decide_eq_true c14;clear c14;have H':=za H;clear H;have p107:0≤((ji12):Int):=of_decide_eq_true ‹_›;have q107:(ji12) < (l2.length:Int):=of_decide_eq_true ‹_›;obtain ⟨ad107,e107,hx107_0⟩:=zx HR2.out (ji12) p107 q107;cases e107;replace hx107_0:=(HB.out.cell (World.block_lt_of_cell? w _ hx107_0)).trans hx107_0;replace p107:=eq_true p107;replace q107:=eq_true q107;(go_wp2);(go_meet);case rel=>exact ⟨_,(wrap64 ((rd l2 (ji12)) + 1)),(by first|rfl|(simp;done)|(simp only [← hji12] <;> (first|rfl|simp))|(simp [*];done)),H',⟨by first|omega|exact Nat.le_refl _⟩,⟨by apply_rules only [HB.out,zc,zd,zb]⟩⟩
     · rw [if_neg c14] at H;exact absurd H (by simp)
    · rw [if_neg c13] at H;exact absurd H (by simp)
   · rw [if_neg c11] at H;have c11b0:decide (0 < (l2.length:Int))=false:=decide_eq_false c11;have c11b1:decide (0 < l2.length)=false:=decide_eq_false (by omega);clear c11;(first|rw [c11b0]|rw [c11b1]|(simp only [i64_w,i32_w];rw [c11b0])|skip);have H':=za H;clear H;(go_wp2);(go_meet);case rel=>exact ⟨_,(0),(by first|rfl|(simp;done)|(simp [*];done)),H',⟨by first|omega|exact Nat.le_refl _⟩,⟨by apply_rules only [HB.out,zc,zd,zb]⟩⟩
  case rest =>
   clear HC10;(try clear c1);(try clear p1);(try clear q1);(try clear hx1);(try clear c2);(try clear p2);(try clear c4);(try clear c4b0);(try clear c4b1);(try clear p6);(try clear c8);(try clear p10);(try clear q10);(try clear hx10);(try clear c11);(try clear c11b0);(try clear c11b1);(try clear c13);(try clear c13b0);(try clear c14);(try clear c14b0);(try clear hx107_0);(try clear p107);(try clear q107);obtain ⟨kq,x7_9,rfl,HA,HJ9,HB⟩:=hcut
   cases kq with
  |zero=>exact absurd HA.out (by simp [spec_lcChosen.j0])
  |succ kj9 =>
    have H:=HA.out;clear HA;simp only [spec_lcChosen.j0] at H;have H':=za H;clear H;(go_wp2);(go_loopg [7,8] kj9 (fun kq v7 v8 w'=>∃ (x7_2:Int) (x8_2:List (List Int)),v7=.int .i64 x7_2∧Aside0 (spec_lcChosen.l0 kq a0 a1 l2 x7_2 x8_2=some r)∧Aside0 (kq≤kj9)∧Aside0 (Kd.N (Kd.slice 3 (Kd.int .i64)) 24 w' w.heap.size (fun k_=>(w.heap.size≤k_)) v8 x8_2)∧Aside0 (Below w.heap.size w w')));case atStart=>exact ⟨(x7_9),(([]:List (List Int))),(by first|rfl|(simp;done)|(simp [*];done)),H',⟨Nat.le_refl _⟩,⟨by first|exact Kd.S_nil _ _ _ _ _|exact Kd.N_nil _ _ _ _ _|exact Kd.V_nil _ _ _ _ _|exact Kd.Q_nil _ _ _ _ _|exact Kd.R_nil _ _ _ _ _⟩,⟨by apply_rules only [HB.out,zc,zd,zb]⟩⟩
    case round =>
     clear H';(try clear c1);(try clear p1);(try clear q1);(try clear hx1);(try clear c2);(try clear p2);(try clear c4);(try clear c4b0);(try clear c4b1);(try clear p6);(try clear c8);(try clear p10);(try clear q10);(try clear hx10);(try clear c11);(try clear c11b0);(try clear c11b1);(try clear c13);(try clear c13b0);(try clear c14);(try clear c14b0);(try clear hx107_0);(try clear p1);(try clear p10);(try clear p107);(try clear p2);(try clear p6);(try clear q1);(try clear q10);(try clear q107);obtain ⟨x7_2,x8_2,rfl,HA,HK2,HO_8,HB⟩:=hrel
     cases gk with
    |zero=>exact absurd HA.out (by simp [spec_lcChosen.l0])
    |succ k2 =>
      have H:=HA.out;clear HA;simp only [spec_lcChosen.l0] at H;by_cases c15:x7_2 < a0
      ·
       rw [if_pos c15] at H;have c15b0:decide (x7_2 < a0)=true:=decide_eq_true c15;clear c15;obtain ⟨t108,A16,H⟩:=bindAside H;(try dsimp only at H);by_cases c17:t108.length < 17592186044416
       ·
        rw [if_pos c17] at H;have LMc17:=za c17;clear c17;obtain ⟨y111,hy111⟩:∃ y_:List Int,y_=(t108 ++ [x7_2]):=⟨_,rfl⟩;(replace H:((spec_lcChosen.f k2 a0 a1 y111).bind fun t114=>(if x8_2.length + t114.length < 5864062014805 then (spec_lcChosen.l0 k2 a0 a1 l2 (wrap64 (x7_2 + 1)) (x8_2 ++ t114)) else (none)))=some r:=by first|(rw [hy111];with_reducible exact H)|(have H2_:=(Option.bind_some _ _).symm.trans H;rw [hy111];with_reducible exact H2_)|(have H2_:=(Option.bind_some _ _).symm.trans H;with_reducible exact H2_)|with_reducible exact H|(rw [hy111];exact H)|exact H);have Ny111:=za hy111;clear hy111;obtain ⟨t114,A18,H⟩:=bindAside H;(try dsimp only at H);by_cases c19:x8_2.length + t114.length < 5864062014805
        · rw [if_pos c19] at H;have LMc19:=za c19;clear c19;obtain ⟨y117,hy117⟩:∃ y_:List (List Int),y_=(x8_2 ++ t114):=⟨_,rfl⟩;(replace H:(spec_lcChosen.l0 k2 a0 a1 l2 (wrap64 (x7_2 + 1)) y117)=some r:=by first|(rw [hy117];with_reducible exact H)|(have H2_:=(Option.bind_some _ _).symm.trans H;rw [hy117];with_reducible exact H2_)|(have H2_:=(Option.bind_some _ _).symm.trans H;with_reducible exact H2_)|with_reducible exact H|(rw [hy117];exact H)|exact H);have Ny117:=za hy117;clear hy117;have H':=za H;clear H;(go_wp2_with (first|((with_reducible refine zu (f:=44) rfl ?_);refine goesL_ (some 35) rfl rfl Tryz.func44 (by kernel_rfl) rfl #[.slice A2 l2.length c2] rfl (by first|rfl|simp only [z3_,z4_,z5_];try rfl) ?_;(with_reducible refine (spec_l1Own.calls _ _ l2 t108 _ ?side1 ?side2 A16.out).mono ?_);(case side1=>apply_rules only [zq HR2.out HB.out,zm,zn,zo]);(case side2=>exact HC2.out);rintro e w20 ⟨v109,rfl,ho0,hb⟩;refine ⟨_,rfl,?_⟩;replace HO_8:=za (Kd.N_elder' (by apply_rules only [HO_8.out,zz,zA,zy]) (Kd.R_base ho0) hb);have HO110:=za (Kd.R_lower (Kd.R_newM (M:=fun k_=>(w.heap.size≤k_)) ho0 (zi (by apply_rules only [HB.out,zc,zd,zb])) (fun k_ h_=>h_)) (zi (by apply_rules only [HB.out,zc,zd,zb])));replace HB:=za (zl (by apply_rules only [HB.out,zc,zd,zb]) hb))|((with_reducible refine gate_builtin (b:=.append) (xs:=#[.tmp 35,.tmp 37]) rfl ?_);at_builtin;refine Kd.R_append (Kd.int .i64) (w0:=w) w.heap.size rfl (.tmp 35) (.tmp 37) 24 3 (.int .i64 0) 8 rfl Tryz.underlying24 info3 rfl (by decide) (by omega) v109 t108 x7_2 [.int .i64 x7_2] (fun k_=>(w.heap.size≤k_)) (fun _=>False) rfl rfl ?aP (fun _ hk=>hk.elim) ?aF ?aO ?aB ?aS ?aL ?_;(case aP=>exact rfl);(case aB=>exact (by apply_rules only [HB.out,zc,zd,zb]));(case aF=>exact (fun k_ hk=>(Nat.le_trans (zi (by apply_rules only [HB.out,zc,zd,zb])) hk)));(case aO=>exact (by (with_reducible repeat (first|apply zs|apply zt|apply zr));exact Kd.R_mono HO110.out (fun _ hk=>hk.1)));(case aS=>exact (zi (by apply_rules only [HB.out,zc,zd,zb])));(case aL=>have:=LMc17.out;omega);intro v112 w21 ho hb hg hat;rw [← Ny111.out] at ho;replace HO_8:=za (Kd.N_afterv (ok:=(fun k_=>(w.heap.size≤k_))) (by apply_rules only [HO_8.out,zz,zA,zy]) hg hat);replace HB:=za (hb);have HO113:=za (ho);clear HO110;clear ho hb hg hat;obtain ⟨Ao22,co22,eo22⟩:=Kd.R_slice HO113.out;subst eo22)|((with_reducible refine zu (f:=84) rfl ?_);refine goesL_ (some 39) rfl rfl Tryz.func84 (by kernel_rfl) rfl #[.int .i64 a0,.int .i64 a1,.slice Ao22 y111.length co22] rfl (by first|rfl|simp only [z3_,z4_,z5_];try rfl) ?_;(with_reducible refine (ih k2 (by have:=HJ9.out;have:=HK2.out;omega) a0 a1 _ _ y111 t114 _ ?side1 ?side2 A18.out).mono ?_);(case side1=>apply_rules only [(Kd.R_reads' HO113.out).2.2,zm,zn,zo]);(case side2=>exact (Kd.R_reads' HO113.out).2.1);rintro e w23 ⟨v115,rfl,ho0,hb⟩;refine ⟨_,rfl,?_⟩;have HO116:=za (Kd.N_lower (Kd.N_mono (ok':=fun k_=>(w.heap.size≤k_)∧some k_ ≠ (u8:Value).ownBlock∧some k_ ≠ (.slice Ao22 y111.length co22:Value).ownBlock) ho0 (fun k_ hk_=>⟨(Nat.le_trans (zi (by apply_rules only [HB.out,zc,zd,zb])) hk_),(Kd.fresh' (Kd.N_lt (by apply_rules only [HO_8.out,zz,zA,zy])) k_ hk_),(Kd.fresh' (Kd.R_lt (by apply_rules only [HO113.out,zs,zt,zr])) k_ hk_)⟩)) (zi (by apply_rules only [HB.out,zc,zd,zb])));replace HO_8:=za (Kd.N_elder' (by apply_rules only [HO_8.out,zz,zA,zy]) (Kd.N_base ho0) hb);replace HO113:=za (Kd.R_below (by apply_rules only [HO113.out,zs,zt,zr]) hb);replace HB:=za (zl (by apply_rules only [HB.out,zc,zd,zb]) hb);obtain ⟨Ao25,co25,eo25⟩:=Kd.N_slice HO116.out;subst eo25)|((with_reducible refine gate_builtin (b:=.append) (xs:=#[.tmp 31,.tmp 39]) rfl ?_);at_builtin;refine Kd.N_append_rows (Kd.slice 3 (Kd.int .i64)) (w0:=w) w.heap.size rfl (.tmp 31) (.tmp 39) 28 24 (.slice none 0 0) 24 rfl Tryz.underlying28 info24 rfl (by decide) (by omega) u8 x8_2 t114 _ _ _ (fun k_=>(w.heap.size≤k_)∧some k_ ≠ (.slice Ao22 y111.length co22:Value).ownBlock) (fun k_=>((fun k_=>(w.heap.size≤k_)∧some k_ ≠ (.slice Ao22 y111.length co22:Value).ownBlock)) k_∧some k_ ≠ (u8:Value).ownBlock) rfl rfl ?aO ?aR (fun _ hk=>hk) ?aF ?aB ?aS ?aL ?_;(case aR=>exact (by skip;exact Kd.N_F (Kd.N_mono (ok':=(fun k_=>((fun k_=>(w.heap.size≤k_)∧some k_ ≠ (.slice Ao22 y111.length co22:Value).ownBlock)) k_∧some k_ ≠ (u8:Value).ownBlock)) (HO116.out) (fun k_ hk=>⟨⟨hk.1,hk.2.2⟩,hk.2.1⟩))));(case aB=>exact (by apply_rules only [HB.out,zc,zd,zb]));(case aF=>exact (fun k_ hk=>⟨(Nat.le_trans (zi (by apply_rules only [HB.out,zc,zd,zb])) hk),Kd.fresh' (Kd.R_lt (by apply_rules only [HO113.out,zs,zt,zr])) k_ hk⟩));(case aO=>exact (by (with_reducible repeat (first|apply zz|apply zA|apply zy));exact Kd.N_mono HO_8.out (fun _ hk=>⟨hk.1.1,hk.1.2⟩)));(case aS=>exact (zi (by apply_rules only [HB.out,zc,zd,zb])));(case aL=>have:=LMc19.out;omega);intro v118 w24 ho hb hg hat;rw [← Ny117.out] at ho;replace HO113:=za (Kd.R_over' (by apply_rules only [HO113.out,zs,zt,zr]) (Kd.N_typed (by apply_rules only [HO_8.out,zz,zA,zy])) (by decide) hg);replace HO116:=za (Kd.N_afterv (ok:=(fun k_=>(w.heap.size≤k_)∧some k_ ≠ (.slice Ao22 y111.length co22:Value).ownBlock)) (by (with_reducible repeat (first|apply zz|apply zA|apply zy));exact Kd.N_mono HO116.out (fun _ hk=>⟨⟨hk.1,hk.2.2⟩,hk.2.1⟩)) hg hat);replace HB:=za (hb);have HO119:=za (ho);clear HO_8;clear ho hb hg hat)));(go_roundg k2);(case measure=>have:=HJ9.out;have:=HK2.out;omega);case rel=>exact ⟨(wrap64 (x7_2 + 1)),(y117),(by first|rfl|(simp;done)|(simp [*];done)),H',⟨by have:=HJ9.out;have:=HK2.out;omega⟩,⟨by (with_reducible repeat (first|apply zz|apply zA|apply zy));exact Kd.N_mono HO119.out (fun _ hk=>hk.1)⟩,⟨by apply_rules only [HB.out,zc,zd,zb]⟩⟩
        · rw [if_neg c19] at H;exact absurd H (by simp)
       · rw [if_neg c17] at H;exact absurd H (by simp)
      · rw [if_neg c15] at H;have c15b0:decide (x7_2 < a0)=false:=decide_eq_false c15;clear c15;obtain rfl:=Option.some.inj H;(go_wp2);(go_ret);exact ⟨_,by first|rfl|simp [*,errW_none,errW_some] <;> rfl,by (with_reducible repeat (first|apply zz|apply zA|apply zy));exact HO_8.out,by repeat (first|(with_reducible first|exact HB.out|apply zc|apply zd|apply zb)|exact HB.out)⟩
def spec_lcSets.l0:Nat→Int→List (List Int)→Int→Option ((List (List Int)))
|0,_,_,_=>none
|k + 1,x0,x3,x4=>if x4≤x0 then ((spec_lcChosen.f k x0 x4 ([]:List Int)).bind fun t101=>(if x3.length + t101.length < 5864062014805 then (spec_lcSets.l0 k x0 (x3 ++ t101) (wrap64 (x4 + 1))) else (none))) else (some x3)
def spec_lcSets.f (k:Nat) (a0:Int):Option ((List (List Int))):=spec_lcSets.l0 k a0 ([]:List (List Int)) 0
theorem spec_lcSets.mono_l:∀ k,(∀ y0 y1 y2,LeO (spec_lcSets.l0 k y0 y1 y2) (spec_lcSets.l0 (k + 1) y0 y1 y2))
|0=>fun _ _ _ r h=>by simp [spec_lcSets.l0] at h
|k + 1=>by
  have ih0:=spec_lcSets.mono_l k
  ·
   intro y0 y1 y2
   unfold spec_lcSets.l0
   repeat' first
  |(with_reducible exact ih0 _ _ _)
  |(with_reducible exact spec_lcChosen.mono _ _ _ _)
  |(with_reducible exact LeO.refl _)
  |(with_reducible exact LeO.none _)
  |(with_reducible refine LeO.ite ?_ ?_)
  |(with_reducible refine LeO.bind ?_ (fun _=>?_))
  |exact ih0 _ _ _
  |exact spec_lcChosen.mono _ _ _ _
  |exact LeO.none _
  |refine LeO.ite ?_ ?_
  |refine LeO.bind ?_ (fun _=>?_)
theorem spec_lcSets.mono:∀ a0 k,LeO (spec_lcSets.f k a0) (spec_lcSets.f (k + 1) a0):=by
 intro a0 k;have ih0:=spec_lcSets.mono_l k;unfold spec_lcSets.f
 repeat' first
  |(with_reducible exact ih0 _ _ _)
  |(with_reducible exact spec_lcChosen.mono _ _ _ _)
  |(with_reducible exact LeO.refl _)
  |(with_reducible exact LeO.none _)
  |(with_reducible refine LeO.ite ?_ ?_)
  |(with_reducible refine LeO.bind ?_ (fun _=>?_))
  |exact ih0 _ _ _
  |exact spec_lcChosen.mono _ _ _ _
  |exact LeO.none _
  |refine LeO.ite ?_ ?_
  |refine LeO.bind ?_ (fun _=>?_)
set_option maxHeartbeats 8000000 in
set_option maxRecDepth 100000 in
theorem spec_lcSets.calls (k:Nat) (a0:Int) (r:List (List Int)) (w:World) (h:spec_lcSets.f k a0=some r) :
  Calls Tryz.prog 60 #[.int .i64 a0] w fun e w'=>∃ v0_:Value,e=.returned (v0_)∧Kd.N (Kd.slice 3 (Kd.int .i64)) 24 w' w.heap.size (fun k_=>(w.heap.size≤k_)) v0_ r∧Below w.heap.size w w':=by
 have HB:=za (Below.refl w.heap.size w);have H:(spec_lcSets.l0 k a0 ([]:List (List Int)) 0)=some r:=h;clear h;have H':=za H;clear H;(go_enter Tryz.func60,Tryz.ntmps60);(go_wp2);(go_loopg [3,4] k (fun kq v3 v4 w'=>∃ (x3_1:List (List Int)) (x4_1:Int),v4=.int .i64 x4_1∧Aside0 (spec_lcSets.l0 kq a0 x3_1 x4_1=some r)∧Aside0 (kq≤k)∧Aside0 (Kd.N (Kd.slice 3 (Kd.int .i64)) 24 w' w.heap.size (fun k_=>(w.heap.size≤k_)) v3 x3_1)∧Aside0 (Below w.heap.size w w')));case atStart=>exact ⟨(([]:List (List Int))),(0),(by first|rfl|(simp;done)|(simp [*];done)),H',⟨Nat.le_refl _⟩,⟨by first|exact Kd.S_nil _ _ _ _ _|exact Kd.N_nil _ _ _ _ _|exact Kd.V_nil _ _ _ _ _|exact Kd.Q_nil _ _ _ _ _|exact Kd.R_nil _ _ _ _ _⟩,⟨by apply_rules only [HB.out,zc,zd,zb]⟩⟩
 case round =>
  clear H';obtain ⟨x3_1,x4_1,rfl,HA,HK1,HO_3,HB⟩:=hrel
  cases gk with
 |zero=>exact absurd HA.out (by simp [spec_lcSets.l0])
 |succ k1 =>
   have H:=HA.out;clear HA;simp only [spec_lcSets.l0] at H;by_cases c2:x4_1≤a0
   ·
    rw [if_pos c2] at H;have c2b0:decide (x4_1≤a0)=true:=decide_eq_true c2;clear c2;obtain ⟨t101,A3,H⟩:=bindAside H;(try dsimp only at H);by_cases c4:x3_1.length + t101.length < 5864062014805
    · rw [if_pos c4] at H;have LMc4:=za c4;clear c4;obtain ⟨y104,hy104⟩:∃ y_:List (List Int),y_=(x3_1 ++ t101):=⟨_,rfl⟩;(replace H:(spec_lcSets.l0 k1 a0 y104 (wrap64 (x4_1 + 1)))=some r:=by first|(rw [hy104];with_reducible exact H)|(have H2_:=(Option.bind_some _ _).symm.trans H;rw [hy104];with_reducible exact H2_)|(have H2_:=(Option.bind_some _ _).symm.trans H;with_reducible exact H2_)|with_reducible exact H|(rw [hy104];exact H)|exact H);have Ny104:=za hy104;clear hy104;have H':=za H;clear H;(go_wp2_with (first|((with_reducible refine zu (f:=84) rfl ?_);refine goesL_ (some 13) rfl rfl Tryz.func84 (by kernel_rfl) rfl #[.int .i64 a0,.int .i64 x4_1,.slice none 0 0] rfl (by first|rfl|simp only [z3_,z4_,z5_];try rfl) ?_;(refine (spec_lcChosen.calls k1 a0 x4_1 _ _ ([]:List Int) t101 _ ?side1 ?side2 A3.out).mono ?_);(case side1=>exact Kd.C_nil _ _);(case side2=>exact Nat.le_refl _);rintro e w5 ⟨v102,rfl,ho0,hb⟩;refine ⟨_,rfl,?_⟩;have HO103:=za (Kd.N_lower (Kd.N_mono (ok':=fun k_=>(w.heap.size≤k_)∧some k_ ≠ (u3:Value).ownBlock) ho0 (fun k_ hk_=>⟨(Nat.le_trans (zi (by apply_rules only [HB.out,zc,zd,zb])) hk_),(Kd.fresh' (Kd.N_lt (by apply_rules only [HO_3.out,zz,zA,zy])) k_ hk_)⟩)) (zi (by apply_rules only [HB.out,zc,zd,zb])));replace HO_3:=za (Kd.N_elder' (by apply_rules only [HO_3.out,zz,zA,zy]) (Kd.N_base ho0) hb);replace HB:=za (zl (by apply_rules only [HB.out,zc,zd,zb]) hb);obtain ⟨Ao7,co7,eo7⟩:=Kd.N_slice HO103.out;subst eo7)|((with_reducible refine gate_builtin (b:=.append) (xs:=#[.tmp 10,.tmp 13]) rfl ?_);at_builtin;refine Kd.N_append_rows (Kd.slice 3 (Kd.int .i64)) (w0:=w) w.heap.size rfl (.tmp 10) (.tmp 13) 28 24 (.slice none 0 0) 24 rfl Tryz.underlying28 info24 rfl (by decide) (by omega) u3 x3_1 t101 _ _ _ (fun k_=>(w.heap.size≤k_)) (fun k_=>((fun k_=>(w.heap.size≤k_))) k_∧some k_ ≠ (u3:Value).ownBlock) rfl rfl ?aO ?aR (fun _ hk=>hk) ?aF ?aB ?aS ?aL ?_;(case aR=>exact (by skip;exact Kd.N_F (Kd.N_mono (ok':=(fun k_=>((fun k_=>(w.heap.size≤k_))) k_∧some k_ ≠ (u3:Value).ownBlock)) (HO103.out) (fun k_ hk=>⟨hk.1,hk.2⟩))));(case aB=>exact (by apply_rules only [HB.out,zc,zd,zb]));(case aF=>exact (fun k_ hk=>(Nat.le_trans (zi (by apply_rules only [HB.out,zc,zd,zb])) hk)));(case aO=>exact (by (with_reducible repeat (first|apply zz|apply zA|apply zy));exact Kd.N_mono HO_3.out (fun _ hk=>hk.1)));(case aS=>exact (zi (by apply_rules only [HB.out,zc,zd,zb])));(case aL=>have:=LMc4.out;omega);intro v105 w6 ho hb hg hat;rw [← Ny104.out] at ho;replace HO103:=za (Kd.N_afterv (ok:=(fun k_=>(w.heap.size≤k_))) (by apply_rules only [HO103.out,zz,zA,zy]) hg hat);replace HB:=za (hb);have HO106:=za (ho);clear HO_3;clear ho hb hg hat)));(go_roundg k1);(case measure=>have:=HK1.out;omega);case rel=>exact ⟨(y104),(wrap64 (x4_1 + 1)),(by first|rfl|(simp;done)|(simp [*];done)),H',⟨by have:=HK1.out;omega⟩,⟨by apply_rules only [HO106.out,zz,zA,zy]⟩,⟨by apply_rules only [HB.out,zc,zd,zb]⟩⟩
    · rw [if_neg c4] at H;exact absurd H (by simp)
   · rw [if_neg c2] at H;have c2b0:decide (x4_1≤a0)=false:=decide_eq_false c2;clear c2;obtain rfl:=Option.some.inj H;(go_wp2);(go_ret);exact ⟨_,by first|rfl|simp [*,errW_none,errW_some] <;> rfl,by (with_reducible repeat (first|apply zz|apply zA|apply zy));exact HO_3.out,by repeat (first|(with_reducible first|exact HB.out|apply zc|apply zd|apply zb)|exact HB.out)⟩
end Go.Proofs.YtpjjeeabpaojnaaGreat.Q
end
