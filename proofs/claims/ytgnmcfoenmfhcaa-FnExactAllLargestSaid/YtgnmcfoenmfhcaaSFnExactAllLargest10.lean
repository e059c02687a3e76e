/- Texts of this claim put together (10): words, what the functions compute, and plain facts. No conditions. -/
import Derived.Test.YtgnmcfoenmfhcaaSFnExactAllLargest4
import Derived.Lib.SortBridge
import Derived.Lib.Hide
import Derived.Test.YtgnmcfoenmfhcaaProg
import Derived.Shelf.SlSortCmp.NoneTotal
import Derived.Test.YtgnmcfoenmfhcaaSFnExactAllLargest6
import Derived.Test.YtgnmcfoenmfhcaaSFnExactAllLargest8
import Derived.Test.YtgnmcfoenmfhcaaSFnExactAllLargest9
import Derived.Deep.RegionWith
import Derived.Deep.RegionLaw
import Derived.Test.YtgnmcfoenmfhcaaSFnExactAllLargest5
import Derived.Deep.RegionHeld3
section
namespace Go.Proofs.Ytgnmcfoenmfhcaa.PermS
set_option linter.unusedVariables false
open Go Go.RowKit Go.Lib Go.Sort Go.Proofs Go.Proofs.YtgnmcfoenmfhcaaW.PrintWords Go.Proofs.YtgnmcfoenmfhcaaW.PrintLast Go.Proofs.YtgnmcfoenmfhcaaW.PrintMore
theorem own_written {W : World} {e base g n cap m q : Nat} {inner ys : List Value} {os : Array Obj} (h : W.ownsRow base e 1 (.slice (some ⟨g, 0, none⟩) n cap) m inner) (hl : ys.length = inner.length) :
    (grow ((W.drewN q).setCells g 0 ys) os).ownsRow base e 1 (.slice (some ⟨g, 0, none⟩) n cap) m ys ∧ (∀ k, k < W.heap.size → k ≠ g → (grow ((W.drewN q).setCells g 0 ys) os).heap[k]? = W.heap[k]?) ∧ (grow ((W.drewN q).setCells g 0 ys) os).os = W.os ∧ (grow ((W.drewN q).setCells g 0 ys) os).tape = W.tape ∧ (grow ((W.drewN q).setCells g 0 ys) os).output = W.output ∧ W.heap.size ≤ (grow ((W.drewN q).setCells g 0 ys) os).heap.size := by
  obtain ⟨hlen, hr⟩ := h
  rcases hr with ⟨hv, _⟩ | ⟨g2, cap2, cur, hv, hbg, hg, hnc, hcm, hcs, htake⟩
  · cases hv
  · injection hv with e1 e2 e3
    injection e1 with e1
    injection e1 with e1 _ _
    subst e1
    subst e3
    have hg2 : (W.drewN q).heap[g]? = some (.cells cur e (0, 0)) := hg
    have hlc : ys.length ≤ cur.size := by
      rw [hl, ← htake, List.length_take]
      exact Nat.le_trans (Nat.min_le_right _ _) (Nat.le_of_eq (Array.length_toList))
    obtain ⟨cur', h3, h4, h5⟩ := setCells_row ys 0 (W.drewN q) cur hg2 (by omega)
    obtain ⟨s1, s2, s3, s4⟩ := setCells_same g ys 0 (W.drewN q)
    have hlt : g < ((W.drewN q).setCells g 0 ys).heap.size := blk_lt h3
    have hil : inner.length = m * 1 := hlen
    refine ⟨⟨by rw [hl]; exact hlen, .inr ⟨g, cap, cur', by rw [e2], hbg, ?_, hnc, hcm, by omega, ?_⟩⟩, fun k hk hne => ?_, s1, s2, s3, ?_⟩
    · rw [heap_grow_old _ _ hlt]; exact h3
    · rw [h5, List.take_zero, List.nil_append, List.take_append_of_le_length (by omega), List.take_of_length_le (by omega)]
    · have hk2 : k < ((W.drewN q).setCells g 0 ys).heap.size := by rw [s4]; exact hk
      rw [heap_grow_old _ _ hk2]
      exact setCells_far _ _ k hne
    · rw [size_grow, s4]
      show W.heap.size ≤ W.heap.size + os.size
      omega
section
variable {α : Type} {d : Kd α} {e base : Nat} {ok okv : Nat → Prop} {W W' : World} {v : Value} {xs : List α} {f : Nat → Nat} {inner : List Value}
theorem elem_M (hd : d.sz = 1) (hr : Reps ((Kd.tag f d).M W base ok) d.sz xs.zipIdx inner) (i : Fin xs.length) : d.M W base (fun k => ok k ∧ f k = i.val) xs[i] [inner.getD i.val (.bool false)] := by
  have hil : inner.length = xs.length := by have := hr.1; rw [List.length_zipIdx, hd, Nat.mul_one] at this; exact this
  have h := hr.2 i.val (xs[i], i.val) (Kd.zip_at (List.getElem?_eq_getElem i.isLt))
  have hl : i.val < inner.length := by rw [hil]; exact i.isLt
  rw [hd, Nat.mul_one, List.drop_eq_getElem_cons hl] at h
  have e1 : inner.getD i.val (.bool false) = inner[i.val] := by rw [List.getD_eq_getElem?_getD, List.getElem?_eq_getElem hl]; rfl
  rw [e1]
  exact h
theorem S_some (hd : d.sz = 1) (hr : Reps ((Kd.tag f d).M W base ok) d.sz xs.zipIdx inner) (hok : ∀ k, ok k → okv k ∧ some k ≠ v.ownBlock) (hm : ∀ k, ok k → k < W.heap.size → W'.heap[k]? = W.heap[k]?)
    (h0 : ∀ k, v.ownBlock = some k → okv k) (σ : List (Fin xs.length)) (hσ : σ.Nodup) (ho : W'.ownsRow base e 1 v σ.length (σ.map fun i => inner.getD i.val (.bool false))) :
    Kd.S d e W' base okv v (σ.map fun i => xs[i]) := by
  have hap : ∀ (i j k : Nat), (∃ h : i < σ.length, (okv k ∧ some k ≠ v.ownBlock) ∧ f k = σ[i].val) → (∃ h : j < σ.length, (okv k ∧ some k ≠ v.ownBlock) ∧ f k = σ[j].val) → i = j := by
    rintro i j k ⟨hi, _, e1⟩ ⟨hj, _, e2⟩
    have e3 : σ[i] = σ[j] := Fin.ext (by omega)
    have := hσ
    rw [List.Nodup, List.pairwise_iff_getElem] at this
    rcases Nat.lt_trichotomy i j with h | h | h
    · exact absurd e3 (this i j hi hj h)
    · exact h
    · exact absurd e3.symm (this j i hj hi h)
  obtain ⟨f', hf⟩ := Kd.reps_tag (d := d) (w := W') (base := base) (ok := fun k => okv k ∧ some k ≠ v.ownBlock) (xs := σ.map fun i => xs[i]) (inner := σ.map fun i => inner.getD i.val (.bool false)) (fun j k => ∃ h : j < σ.length, (okv k ∧ some k ≠ v.ownBlock) ∧ f k = σ[j].val) hap (fun j k ⟨_, h, _⟩ => h) (by rw [hd, List.length_map, List.length_map, Nat.mul_one]) (by
    intro j x hj
    rw [List.getElem?_map] at hj
    obtain ⟨i, hi, rfl⟩ := Option.map_eq_some_iff.1 hj
    have hjl : j < σ.length := (List.getElem?_eq_some_iff.1 hi).1
    have hij : σ[j] = i := (List.getElem?_eq_some_iff.1 hi).2
    have hM := elem_M hd hr i
    have hM2 := d.M_mono (fun _ hk => hk.1) (d.M_move (w1 := W') (fun k hk => hm k hk.1.1 hk.2.2.1) (d.M_bound hM))
    rw [hd, Nat.mul_one, List.drop_eq_getElem_cons (by rw [List.length_map]; exact hjl), List.take_succ_cons, List.take_zero, List.getElem_map, hij]
    exact d.M_mono (fun k hk => ⟨hjl, hok k hk.1, by rw [hij]; exact hk.2⟩) hM2)
  exact ⟨f', h0, _, by rw [List.length_zipIdx, List.length_map]; show W'.ownsRow base e d.sz v _ _; rw [hd]; exact ho, hf⟩
end
end Go.Proofs.Ytgnmcfoenmfhcaa.PermS
end
section
namespace Go.Proofs.Ytgnmcfoenmfhcaa.Lay
open Go.Shelf Go.Proofs
def sortS_ren : Go.Shelf.Ren := ⟨fun | 6 => 134 | 15 => 138 | 14 => 147 | 28 => 157 | 29 => 158 | 20 => 161 | 21 => 162 | 22 => 163 | 23 => 164 | 24 => 165 | 25 => 166 | 26 => 167 | 27 => 168 | 46 => 174 | 47 => 170 | 48 => 171 | 49 => 175 | 50 => 176 | 57 => 178 | n => n, fun | 22 => 61 | 24 => 24 | 25 => 107 | 3 => 3 | 39 => 109 | 0 => 0 | 53 => 118 | 55 => 84 | 4 => 4 | 46 => 124 | 45 => 123 | 50 => 30 | 5 => 5 | 9 => 9 | 66 => 135 | 70 => 139 | 76 => 143 | 77 => 144 | n => n, fun | n => n⟩
theorem sortS : Go.Proofs.SlLaysF.n6 Try.prog sortS_ren := {
  mixed := by kernel_rfl,
  f6 := ⟨Try.f134.name, by decide, Try.func134.trans (congrArg some (by kernel_rfl))⟩,
  f14 := ⟨Try.f147.name, by decide, Try.func147.trans (congrArg some (by kernel_rfl))⟩,
  f15 := Try.func138.trans (congrArg some (by kernel_rfl)),
  f20 := ⟨Try.f161.name, by decide, Try.func161.trans (congrArg some (by kernel_rfl))⟩,
  f21 := ⟨Try.f162.name, by decide, Try.func162.trans (congrArg some (by kernel_rfl))⟩,
  f22 := ⟨Try.f163.name, by decide, Try.func163.trans (congrArg some (by kernel_rfl))⟩,
  f23 := ⟨Try.f164.name, by decide, Try.func164.trans (congrArg some (by kernel_rfl))⟩,
  f24 := ⟨Try.f165.name, by decide, Try.func165.trans (congrArg some (by kernel_rfl))⟩,
  f25 := ⟨Try.f166.name, by decide, Try.func166.trans (congrArg some (by kernel_rfl))⟩,
  f26 := ⟨Try.f167.name, by decide, Try.func167.trans (congrArg some (by kernel_rfl))⟩,
  f27 := ⟨Try.f168.name, by decide, Try.func168.trans (congrArg some (by kernel_rfl))⟩,
  f28 := Try.func157.trans (congrArg some (by kernel_rfl)),
  f29 := Try.func158.trans (congrArg some (by kernel_rfl)),
  f46 := ⟨Try.f174.name, by decide, Try.func174.trans (congrArg some (by kernel_rfl))⟩,
  f47 := Try.func170.trans (congrArg some (by kernel_rfl)),
  f48 := Try.func171.trans (congrArg some (by kernel_rfl)),
  f49 := ⟨Try.f175.name, by decide, Try.func175.trans (congrArg some (by kernel_rfl))⟩,
  f50 := ⟨Try.f176.name, by decide, Try.func176.trans (congrArg some (by kernel_rfl))⟩,
  f57 := ⟨Try.f178.name, by decide, Try.func178.trans (congrArg some (by kernel_rfl))⟩,
  t0 := Try.underlying0,
  a0 := Try.isAgg0,
  z0 := Try.sizeOf0,
  v0 := Try.zeroValue0,
  t3 := Try.underlying3,
  a3 := Try.isAgg3,
  z3 := Try.sizeOf3,
  v3 := Try.zeroValue3,
  t4 := Try.underlying4,
  a4 := Try.isAgg4,
  z4 := Try.sizeOf4,
  v4 := Try.zeroValue4,
  t5 := Try.underlying5,
  a5 := Try.isAgg5,
  z5 := Try.sizeOf5,
  v5 := Try.zeroValue5,
  t9 := Try.underlying9,
  a9 := Try.isAgg9,
  z9 := Try.sizeOf9,
  v9 := Try.zeroValue9,
  t22 := Try.underlying61,
  a22 := Try.isAgg61,
  z22 := Try.sizeOf61,
  v22 := Try.zeroValue61,
  a24 := Try.isAgg24,
  z24 := Try.sizeOf24,
  t25 := Try.underlying107,
  a25 := Try.isAgg107,
  z25 := Try.sizeOf107,
  v25 := Try.zeroValue107,
  t39 := Try.underlying109,
  a39 := Try.isAgg109,
  z39 := Try.sizeOf109,
  v39 := Try.zeroValue109,
  t45 := Try.underlying123,
  a45 := Try.isAgg123,
  z45 := Try.sizeOf123,
  v45 := Try.zeroValue123,
  t46 := Try.underlying124,
  a46 := Try.isAgg124,
  z46 := Try.sizeOf124,
  v46 := Try.zeroValue124,
  t50 := Try.underlying30,
  a50 := Try.isAgg30,
  z50 := Try.sizeOf30,
  v50 := Try.zeroValue30,
  t53 := Try.underlying118,
  a53 := Try.isAgg118,
  z53 := Try.sizeOf118,
  v53 := Try.zeroValue118,
  t55 := Try.underlying84,
  a55 := Try.isAgg84,
  z55 := Try.sizeOf84,
  v55 := Try.zeroValue84,
  t66 := Try.underlying135,
  a66 := Try.isAgg135,
  z66 := Try.sizeOf135,
  v66 := Try.zeroValue135,
  t70 := Try.underlying139,
  a70 := Try.isAgg139,
  z70 := Try.sizeOf139,
  v70 := Try.zeroValue139,
  t76 := Try.underlying143,
  a76 := Try.isAgg143,
  z76 := Try.sizeOf143,
  v76 := Try.zeroValue143,
  t77 := Try.underlying144,
  a77 := Try.isAgg144,
  z77 := Try.sizeOf144,
  v77 := Try.zeroValue144 }
end Go.Proofs.Ytgnmcfoenmfhcaa.Lay
end
section
namespace Go.Proofs.Ytgnmcfoenmfhcaa.BehindK
set_option linter.unusedVariables false
open Go Go.Shelf Go.RowKit Go.Lib Go.Sort Go.Proofs Go.Proofs.Ytgnmcfoenmfhcaa.Q Go.Proofs.YtgnmcfoenmfhcaaW.PrintWords Go.Proofs.YtgnmcfoenmfhcaaW.PrintLast Go.Proofs.YtgnmcfoenmfhcaaW.PrintMore
open Go.Proofs.YtgnmcfoenmfhcaaL Go.Proofs.Ytgnmcfoenmfhcaa.LawK Go.Proofs.Ytgnmcfoenmfhcaa.AllK
theorem behind_1 {c : Int} (h : okC c = true) : impl_behind_1.f c = some ((key c : Nat) : Int) := by
  have := of_decide_eq_true h
  unfold impl_behind_1.f key
  by_cases e : c = -1
  · rw [if_pos e, if_pos e]; rfl
  · rw [if_neg e, if_neg e, Int.toNat_of_nonneg (by omega)]
theorem behind_l0 {a b : List Int} (hl : a.length = b.length) (h6 : a.length ≤ 6) (ha : a.all okC = true) (hb : b.all okC = true) : ∀ (d i : Nat), i + d = a.length → Ev (fun k => impl_behind.l0 k a b (a.length : Int) i) (cmpB (a.drop i) (b.drop i))
  | 0, i, hi => by
    rw [List.drop_of_length_le (by omega), List.drop_of_length_le (by omega)]
    refine Ev.step (f := fun _ => some 0) (fun k => ?_) (Ev.now _)
    rw [impl_behind.l0, if_neg (by omega)]
  | d + 1, i, hi => by
    have h1 : wrap64 ((i : Int) + 1) = ((i + 1 : Nat) : Int) := by rw [w64 (by omega) (by omega)]; rfl
    have hi1 : i < a.length := by omega
    have hi2 : i < b.length := by omega
    have hoa := List.all_eq_true.1 ha _ (List.getElem_mem hi1)
    have hob := List.all_eq_true.1 hb _ (List.getElem_mem hi2)
    have hka := key_lt hoa
    have hkb := key_lt hob
    rw [List.drop_eq_getElem_cons hi1, List.drop_eq_getElem_cons hi2, cmpB]
    by_cases e : a[i] = b[i]
    · rw [if_pos e]
      refine Ev.step (fun k => ?_) (behind_l0 hl h6 ha hb d (i + 1) (by omega))
      rw [impl_behind.l0, if_pos (by omega), if_pos (by omega), if_pos (by omega), if_pos (by omega), rd_lt _ _ hi1, rd_lt _ _ hi2, if_pos e, h1]
    · rw [if_neg e]
      refine Ev.step (f := fun _ => some ((key a[i] : Int) - key b[i])) (fun k => ?_) (Ev.now _)
      rw [impl_behind.l0, if_pos (by omega), if_pos (by omega), if_pos (by omega), if_pos (by omega), rd_lt _ _ hi1, rd_lt _ _ hi2, if_neg e, behind_1 hoa, behind_1 hob, Option.bind_some, Option.bind_some, w64 (by omega) (by omega)]
theorem behind {a b : List Int} (hl : a.length = b.length) (h6 : a.length ≤ 6) (ha : a.all okC = true) (hb : b.all okC = true) : Ev (fun k => impl_behind.f k a b) (cmpB a b) := by
  have := behind_l0 hl h6 ha hb a.length 0 (by omega)
  exact this
def sortOk (l : List (List Int)) : Bool := decide (1 ≤ l.length) && decide (l.length ≤ 1000000) && decide l.Nodup && l.all (fun x => decide (x.length = (l.headD []).length) && decide (x.length ≤ 6) && x.all okC)
structure SortOk (l : List (List Int)) : Prop where
  one : 1 ≤ l.length
  many : l.length ≤ 1000000
  nd : l.Nodup
  row : ∀ x ∈ l, x.length = (l.headD []).length ∧ x.length ≤ 6 ∧ x.all okC = true
theorem sortOk_iff {l : List (List Int)} : sortOk l = true ↔ SortOk l := by
  unfold sortOk
  simp only [Bool.and_eq_true, decide_eq_true_eq, List.all_eq_true]
  constructor
  · rintro ⟨⟨⟨h1, h2⟩, h3⟩, h4⟩
    exact ⟨h1, h2, h3, fun x hx => ⟨(h4 x hx).1.1, (h4 x hx).1.2, List.all_eq_true.2 (h4 x hx).2⟩⟩
  · rintro ⟨h1, h2, h3, h4⟩
    exact ⟨⟨⟨h1, h2⟩, h3⟩, fun x hx => ⟨⟨(h4 x hx).1, (h4 x hx).2.1⟩, List.all_eq_true.1 (h4 x hx).2.2⟩⟩
section
variable {l : List (List Int)} (h : SortOk l)
def cfB (l : List (List Int)) (x y : Fin l.length) : Int := cmpB l[x] l[y]
include h
theorem ltB (x y : Fin l.length) : ltOf (cfB l) x y = decide (rankB l[x] < rankB l[y]) := by
  have hx := h.row l[x] (List.getElem_mem x.isLt)
  have hy := h.row l[y] (List.getElem_mem y.isLt)
  exact decide_eq_decide.2 (cmp_lt (by omega) hx.2.2 hy.2.2)
theorem swoB : SWO (ltOf (cfB l)) where
  irrefl x := by rw [ltB h]; simp
  trans x y z h1 h2 := by rw [ltB h] at *; simp at *; omega
  ntrans x y z h1 h2 := by rw [ltB h] at *; simp at *; omega
theorem totB (x y : Fin l.length) (h1 : ltOf (cfB l) x y = false) (h2 : ltOf (cfB l) y x = false) : x = y := by
  rw [ltB h] at h1 h2
  simp only [decide_eq_false_iff_not] at h1 h2
  have hx := h.row l[x] (List.getElem_mem x.isLt)
  have hy := h.row l[y] (List.getElem_mem y.isLt)
  have e := rank_inj (s := l[x]) (t := l[y]) (by omega) hx.2.2 hy.2.2 (by omega)
  have hn := h.nd
  rw [List.Nodup, List.pairwise_iff_getElem] at hn
  rcases Nat.lt_trichotomy x.val y.val with h3 | h3 | h3
  · exact absurd e (hn x.val y.val x.isLt y.isLt h3)
  · exact Fin.ext h3
  · exact absurd e.symm (hn y.val x.val y.isLt x.isLt h3)
theorem sorted_map : ((List.finRange l.length).mergeSort fun x y => !(ltOf (cfB l)) y x).map (fun i => l[i]) = sortB l := by
  have h1 := List.map_mergeSort (r := fun x y => !(ltOf (cfB l)) y x) (s := fun a b => decide (rankB a ≤ rankB b)) (f := fun i : Fin l.length => l[i]) (l := List.finRange l.length) (by
    intro a _ b _
    rw [ltB h]
    by_cases c : rankB l[b] < rankB l[a]
    · rw [decide_eq_true c, decide_eq_false (by omega)]; rfl
    · rw [decide_eq_false c, decide_eq_true (by omega)]; rfl)
  rw [h1]
  unfold sortB
  congr 1
  apply List.ext_getElem
  · simp
  · intro i h1 h2
    simp
end
end Go.Proofs.Ytgnmcfoenmfhcaa.BehindK
namespace Go.Proofs.Ytgnmcfoenmfhcaa.Q
set_option linter.unusedVariables false
open Go Go.Shelf Go.RowKit Go.Lib Go.Sort Go.Proofs Go.Proofs.YtgnmcfoenmfhcaaW.PrintWords Go.Proofs.YtgnmcfoenmfhcaaW.PrintLast Go.Proofs.YtgnmcfoenmfhcaaW.PrintMore
open Go.Proofs.Ytgnmcfoenmfhcaa.AllK Go.Proofs.Ytgnmcfoenmfhcaa.BehindK Go.Proofs.Ytgnmcfoenmfhcaa.PermS
def slices_SortFunc_int_int__at_impl_behind.f (l0 : List (List Int)) : Option (List (List Int)) := if sortOk l0 = true then some (sortB l0) else none
set_option maxHeartbeats 4000000 in
set_option maxRecDepth 100000 in
theorem slices_SortFunc_int_int__at_impl_behind.calls (P0_ : Nat → Prop) (u9000_ : Value) (l0 : List (List Int)) (r : List (List Int)) (w0 w : World) (hB : Below w0.heap.size w0 w) (ho0 : Kd.S (Kd.slice 3 (Kd.int .i64)) 24 w w0.heap.size P0_ u9000_ l0) (h : slices_SortFunc_int_int__at_impl_behind.f l0 = some r) :
    Calls Try.prog 134 #[u9000_, .func (.func 135) #[] #[]] w fun e w' => e = .returned (.tuple #[]) ∧ Kd.S (Kd.slice 3 (Kd.int .i64)) 24 w' w0.heap.size (fun k_ => (P0_ k_ ∨ w.heap.size ≤ k_)) u9000_ r ∧ Below w0.heap.size w0 w' ∧ Kept w w' (fun k_ => P0_ k_) := by
  unfold slices_SortFunc_int_int__at_impl_behind.f at h
  by_cases c : sortOk l0 = true
  rotate_left
  · rw [if_neg c] at h; cases h
  rw [if_pos c] at h
  obtain rfl := Option.some.inj h
  have hS := sortOk_iff.1 c
  have h1 := hS.one
  have h2 := hS.many
  obtain ⟨g, cap, rfl, hbg, hblk, cells, hg⟩ := Kd.S_form ho0 (by omega)
  obtain ⟨f, h0, inner, ho, hr⟩ := ho0
  have hgo : (Value.slice (some ⟨g, 0, none⟩) l0.length cap).ownBlock = some g := by simp [Value.ownBlock]
  have hP : P0_ g := h0 g hgo
  rw [List.length_zipIdx] at ho
  have hsz : (Kd.slice 3 (Kd.int .i64)).sz = 1 := rfl
  have hsz' : (Kd.tag f (Kd.slice 3 (Kd.int .i64))).sz = 1 := rfl
  rw [hsz'] at ho
  have hil : inner.length = l0.length := by have := hr.1; rw [List.length_zipIdx] at this; exact this.trans (Nat.mul_one _)
  haveI : Inhabited (Fin l0.length) := ⟨⟨0, h1⟩⟩
  obtain ⟨enc, henc⟩ : ∃ enc : Fin l0.length → Value, enc = fun i => inner.getD i.val (.bool false) := ⟨_, rfl⟩
  have hM : ∀ i : Fin l0.length, ∃ A cp, enc i = .slice A l0[i].length cp ∧ l0[i].length ≤ cp ∧ ∀ W : World, (∀ k, k ≠ g → k < w.heap.size → W.heap[k]? = w.heap[k]?) → Kd.C (Kd.int .i64) W A l0[i].length l0[i] := by
    intro i
    obtain ⟨v, e1, hv⟩ := elem_M hsz hr i
    have e2 : enc i = v := by rw [henc]; injection e1
    obtain ⟨A, cp, e3, hle, _⟩ := Kd.R_reads hv
    refine ⟨A, cp, by rw [e2, e3], hle, fun W hW => ?_⟩
    have h3 := Kd.R_move (w1 := W) (Kd.R_bound hv) (fun k hk => hW k (fun e => hk.1.1.2 (by rw [e]; exact hgo.symm)) hk.2.2.1)
    rw [e3] at h3
    exact (Kd.R_reads' h3).2.2
  have eg : ∀ args w, (callFunc 135 args).run Try.prog w = .ok (.enter 135 args) w := enters_of Try.func135 (by kernel_rfl) rfl
  have hsize : (List.finRange l0.length).toArray.size = l0.length := by simp
  have h1c : OneCell enc := fun i => by obtain ⟨A, cp, e, _⟩ := hM i; rw [e]; rfl
  have hH : Holds enc w g 0 (List.finRange l0.length).toArray := by
    intro j hj
    rw [hsize] at hj
    have e1 : (List.finRange l0.length).toArray[j]! = ⟨j, hj⟩ := by simp [hj]
    rw [e1, Nat.zero_add]
    refine ⟨?_, blk_frozen hg j⟩
    have hc := ho.cells (g := g) hgo j _ (List.getElem?_eq_getElem (by omega : j < inner.length))
    rw [add_plain] at hc
    rw [hc, henc]
    simp only [List.getD_eq_getElem?_getD, List.getElem?_eq_getElem (by omega : j < inner.length), Option.getD_some]
  have far : ∀ (q : Nat) (ys : List (Fin l0.length)) (os : Array Obj), ys.length = l0.length → _ := fun q ys os hl => own_written (W := w) (q := q) (ys := ys.map enc) (os := os) ho (by rw [List.length_map, hl, hil])
  have hcmp : CmpLays1 Try.prog 135 #[] enc (cfB l0) g 0 (List.finRange l0.length).toArray.size w := by
    intro m os dk hdk x y
    rw [hsize] at hdk
    have hdl : dk.toList.length = l0.length := by rw [Array.length_toList]; exact hdk
    have hsw : sortWorld enc w g 0 m dk os = grow ((w.drewN m).setCells g 0 (dk.toList.map enc)) os := by
      unfold sortWorld
      have := Lib.sorted_world enc w g 0 m (List.finRange l0.length).toArray dk.toList os hH (by rw [hsize, hdl])
      rw [← this, Array.toArray_toList]
    obtain ⟨_, F2, _⟩ := far m dk.toList os hdl
    rw [hsw]
    obtain ⟨A, cp, ex, hlx, hCx⟩ := hM x
    obtain ⟨A', cp', ey, hly, hCy⟩ := hM y
    rw [ex, ey]
    have hx := hS.row l0[x] (List.getElem_mem x.isLt)
    have hy := hS.row l0[y] (List.getElem_mem y.isLt)
    obtain ⟨k, hk⟩ := (behind (a := l0[x]) (b := l0[y]) (by omega) hx.2.1 hx.2.2 hy.2.2).rounds
    refine (impl_behind.calls k A cp l0[x] A' cp' l0[y] _ _ (hCx _ (fun k hne hlt => F2 k hlt hne)) hlx (hCy _ (fun k hne hlt => F2 k hlt hne)) hly hk).mono ?_
    rintro e w' ⟨rfl, ⟨q, rfl⟩⟩
    exact ⟨rfl, q, #[], (grow_empty _).symm⟩
  have hT := Any.slices_SortFunc_total Lay.sortS enc h1c (cfB l0) (swoB hS) 135 #[] g 0 cap (List.finRange l0.length).toArray w eg hcmp hH hblk (by rw [hsize]; omega) (totB hS)
  rw [hsize] at hT
  change Calls Try.prog 134 _ _ _ at hT
  refine hT.mono ?_
  rintro e w' ⟨rfl, n, os, rfl⟩
  obtain ⟨σ, hσ⟩ : ∃ σ, σ = (List.finRange l0.length).mergeSort fun x y => !(ltOf (cfB l0)) y x := ⟨_, rfl⟩
  have hσp : σ.Perm (List.finRange l0.length) := by rw [hσ]; exact List.mergeSort_perm _ _
  have hσl : σ.length = l0.length := by rw [hσp.length_eq]; simp
  have hσn : σ.Nodup := hσp.nodup_iff.2 (List.nodup_finRange _)
  have hsw : sortWorld enc w g 0 n ((List.finRange l0.length).toArray.toList.mergeSort fun x y => !(ltOf (cfB l0)) y x).toArray os = grow ((w.drewN n).setCells g 0 (σ.map enc)) os := by
    unfold sortWorld
    rw [← Lib.sorted_world enc w g 0 n (List.finRange l0.length).toArray σ os hH (by rw [hsize, hσl]), hσ]
  rw [hsw]
  obtain ⟨F1, F2, F3, F4, F5, F6⟩ := far n σ os hσl
  refine ⟨rfl, ?_, ⟨F3.trans hB.os, F4.trans hB.tape, F5.trans hB.output, Nat.le_trans hB.size F6, fun k hk => ?_⟩, ⟨F6, fun i hi hn => F2 i hi (fun he => hn (he ▸ hP))⟩⟩
  · rw [← sorted_map hS, ← hσ]
    refine Kd.S_mono (S_some (okv := P0_) (W' := grow ((w.drewN n).setCells g 0 (σ.map enc)) os) hsz hr (fun k hk => hk) (fun k hk hlt => F2 k hlt (fun e => hk.2 (by rw [e]; exact hgo.symm))) h0 σ hσn ?_) (fun _ h => .inl h)
    rw [hσl]
    rw [henc] at F1
    rw [henc]
    exact F1
  · have hk2 : k < w.heap.size := Nat.lt_of_lt_of_le hk hB.size
    rw [F2 k hk2 (by omega)]
    exact hB.block k hk
end Go.Proofs.Ytgnmcfoenmfhcaa.Q
end
section
namespace Go.Proofs.Ytgnmcfoenmfhcaa.Q
set_option linter.unusedVariables false
open Go.RowKit Go.Proofs.YtgnmcfoenmfhcaaW.PrintWords Go.Proofs.YtgnmcfoenmfhcaaW.PrintLast Go.Proofs.YtgnmcfoenmfhcaaW.PrintMore
open Go.Proofs.YtgnmcfoenmfhcaaL Go.Proofs.Ytgnmcfoenmfhcaa.LawK Go.Proofs.Ytgnmcfoenmfhcaa.BoardK Go.Proofs.Ytgnmcfoenmfhcaa.Walk Go.Proofs.Ytgnmcfoenmfhcaa.MostK Go.Proofs.Ytgnmcfoenmfhcaa.AllK Go.Proofs.Ytgnmcfoenmfhcaa.BehindK
def impl_Board_largest.f (a0_0 : Int) (a0_1 : Int) (l0_2 : List Int) : Option (List (List Int)) := if isBoardB a0_0 a0_1 l0_2 = true then some (largestS l0_2 a0_1.toNat l0_2.length) else none
theorem withs_perm {l : List Int} {C R : Nat} (hC : C ≤ 6) (m : Nat) : (withs (m : Int) (waysFrom l C R 0 0 [])).Perm (allS l C R 0 0 [] m) := by
  have h := all_perm (l := l) hC R 0 0 [] m
  have e : withs (m : Int) (waysFrom l C R 0 0 []) = (waysFrom l C R 0 0 []).filter (fun p => decide (rooksN p = rooksN [] + m)) := by
    unfold withs
    apply List.filter_congr
    intro p _
    have h0 : rooksN [] = 0 := rfl
    exact decide_eq_decide.2 (by omega)
  rw [e]
  exact h
theorem withs_ok {l : List Int} {C R : Nat} (hC : C ≤ 6) (hR : R ≤ 6) : SortOk (withs ((mostN l C R 0 0 : Nat) : Int) (waysFrom l C R 0 0 [])) := by
  have hp := withs_perm (l := l) (R := R) hC (mostN l C R 0 0)
  have hrow : ∀ x ∈ withs ((mostN l C R 0 0 : Nat) : Int) (waysFrom l C R 0 0 []), x.length = R ∧ x.all okC = true := fun x hx => largest_row hC x (hp.mem_iff.1 hx)
  have hlen := hp.length_eq
  have hl2 := largest_len (l := l) hC hR
  unfold largestS at hl2
  have hne : 1 ≤ (withs ((mostN l C R 0 0 : Nat) : Int) (waysFrom l C R 0 0 [])).length := by
    rw [hlen]
    exact List.length_pos_iff.2 (largest_ne hC R)
  refine ⟨hne, by omega, hp.nodup_iff.2 (largest_nodup hC R), fun x hx => ?_⟩
  have h1 := hrow x hx
  refine ⟨?_, by omega, h1.2⟩
  cases e : withs ((mostN l C R 0 0 : Nat) : Int) (waysFrom l C R 0 0 []) with
  | nil => rw [e] at hx; cases hx
  | cons y t =>
    have h2 := hrow y (by rw [e]; simp)
    rw [List.headD_cons]
    omega
set_option maxHeartbeats 8000000 in
set_option maxRecDepth 100000 in
theorem impl_Board_largest.calls (a0_0 a0_1 : Int) (A0_2 : Option Addr) (c0_2 : Nat) (l0_2 : List Int) (r : List (List Int)) (w : World) (hr0_2 : Kd.C (Kd.int .i64) w A0_2 l0_2.length l0_2) (hc0_2 : l0_2.length ≤ c0_2) (h : impl_Board_largest.f a0_0 a0_1 l0_2 = some r) :
    Calls Try.prog 107 #[.agg #[.int .i64 a0_0, .int .i64 a0_1, .slice A0_2 l0_2.length c0_2]] w fun e w' => ∃ v0_ : Value, e = .returned (v0_) ∧ Kd.S (Kd.slice 3 (Kd.int .i64)) 24 w' w.heap.size (fun _ => True) v0_ r ∧ Below w.heap.size w w' := by
  by_cases hs : isBoardB a0_0 a0_1 l0_2 = true
  rotate_left
  · rw [impl_Board_largest.f, if_neg hs] at h; cases h
  rw [impl_Board_largest.f, if_pos hs] at h
  have h := Option.some.inj h
  obtain ⟨R, C, rfl, rfl, hlR, h1R, hR, h1C, hC, hbits⟩ := board_of hs
  rw [Int.toNat_natCast, hlR] at h
  obtain ⟨k, hk⟩ := (most hs).rounds
  have hW : impl_Board_with.f R C l0_2 ((mostN l0_2 C R 0 0 : Nat) : Int) = some (withs ((mostN l0_2 C R 0 0 : Nat) : Int) (waysFrom l0_2 C R 0 0 [])) := by rw [impl_Board_with.f, if_pos hs, Int.toNat_natCast, hlR]
  have hF : slices_SortFunc_int_int__at_impl_behind.f (withs ((mostN l0_2 C R 0 0 : Nat) : Int) (waysFrom l0_2 C R 0 0 [])) = some r := by
    rw [slices_SortFunc_int_int__at_impl_behind.f, if_pos (sortOk_iff.2 (withs_ok hC hR)), sortB_all hC (withs_perm hC _), ← h]
    rfl
  have CM := Lib.hid (fun (W : World) (hb : Below w.heap.size w W) => impl_Board_most.calls k R C A0_2 c0_2 l0_2 _ W (Kd.C_below hr0_2 hb) hc0_2 hk)
  have CW := Lib.hid (fun (W : World) (hb : Below w.heap.size w W) => impl_Board_with.calls R C A0_2 c0_2 l0_2 _ _ W (Kd.C_below hr0_2 hb) hc0_2 hW)
  have CS := Lib.hid (fun (u : Value) (W : World) (hb : Below w.heap.size w W) ho => slices_SortFunc_int_int__at_impl_behind.calls (fun _ => True) u _ _ w W hb ho hF)
  clear h hs hlR h1R hR h1C hC hbits hr0_2 hc0_2 hk hW hF
  generalize ((mostN l0_2 C R 0 0 : Nat) : Int) = MI at *
  generalize withs MI (waysFrom l0_2 C R 0 0 []) = rows at *
  generalize (R : Int) = RI at *
  generalize (C : Int) = CI at *
  have hu24 := Try.underlying26
  go_enter Try.func107, Try.ntmps107
  go_wp2_with ((with_reducible refine gate_dst (N := 1) rfl ?_); refine box_event ?hg (N := 1) ?hd (cs := #[.int .i64 RI, .int .i64 CI, .slice A0_2 l0_2.length c0_2]) (t := 26) ?hr ?_; (case hd => rfl); (case hg => rfl); (case hr => first | (go_simp; done) | (go_simp; rfl)); intro gb hg w1 hbox hb; have G1 := Aside0.mk hg; have K1 := Aside0.mk hbox; have B1 := Aside0.mk hb; clear hg hbox hb; have z5 : w1.cell? ⟨gb, 0, none⟩ = some (.int .i64 RI) := (blk_cell K1.out 0).trans rfl; have z6 : w1.cell? ⟨gb, 1, none⟩ = some (.int .i64 CI) := (blk_cell K1.out 1).trans rfl; have z7 : w1.cell? ⟨gb, 2, none⟩ = some (.slice A0_2 l0_2.length c0_2) := (blk_cell K1.out 2).trans rfl)
  go_region_with (first
    | (go_at_call 80; (refine (CM.out _ ?sB).mono ?_); (case sB => repeat (first | exact B1.out | apply below_drew1 | apply pw_below_drewN)); rintro e w2 ⟨rfl, hb2⟩; have D2 := Aside0.mk (Below.trans (show Below w1.heap.size w1 _ from by repeat (first | exact Below.refl _ _ | apply below_drew1 | apply pw_below_drewN)) (hb2.mono (Nat.le_refl _))); have B2 := Aside0.mk (B1.out.trans (D2.out.mono B1.out.size)); clear hb2; have y5 : w2.cell? ⟨gb, 0, none⟩ = some (.int .i64 RI) := (blk_cell (blk_below K1.out D2.out) 0).trans rfl; have y6 : w2.cell? ⟨gb, 1, none⟩ = some (.int .i64 CI) := (blk_cell (blk_below K1.out D2.out) 1).trans rfl; have y7 : w2.cell? ⟨gb, 2, none⟩ = some (.slice A0_2 l0_2.length c0_2) := (blk_cell (blk_below K1.out D2.out) 2).trans rfl)
    | (go_at_call 133; (refine (CW.out _ ?sB).mono ?_); (case sB => repeat (first | exact B2.out | apply below_drew1 | apply pw_below_drewN)); rintro e w3 ⟨v3, rfl, ho3, hb3⟩; have B3 := Aside0.mk (Below.trans (show Below w.heap.size w _ from by repeat (first | exact B2.out | apply below_drew1 | apply pw_below_drewN)) (hb3.mono (by have := B2.out.size; exact this))); have O3 := Aside0.mk (Kd.S_lower ho3 (show w.heap.size ≤ _ from by have := B2.out.size; exact this)); obtain ⟨A3, c3, hv3⟩ := Kd.S_slice ho3; subst hv3; clear hb3 ho3))
  all_goals go_wp2_with (go_at_call 134; (refine (CS.out _ _ ?sB ?sO).mono ?_); (case sB => repeat (first | exact B3.out | apply below_drew1 | apply pw_below_drewN)); (case sO => (with_reducible repeat (first | apply Kd.S_alloc | apply Kd.S_drewN | apply Kd.S_drew)); exact O3.out); rintro e w4 ⟨rfl, ho4, hb4, hk4⟩; have O4 := Aside0.mk ho4; have B4 := Aside0.mk hb4; clear ho4 hb4 hk4)
  all_goals go_ret
  all_goals exact ⟨_, rfl, Kd.S_mono O4.out (fun _ _ => trivial), B4.out⟩
end Go.Proofs.Ytgnmcfoenmfhcaa.Q
end
section
namespace Go.Proofs.Ytgnmcfoenmfhcaa.Q
open Go.RowKit Go.Proofs.YtgnmcfoenmfhcaaW.PrintWords Go.Proofs.YtgnmcfoenmfhcaaW.PrintLast Go.Proofs.YtgnmcfoenmfhcaaW.PrintMore
attribute [local go_sem] max2_int min2_int max_two min_two max_three min_three max_four min_four   -- for this text's walks alone
set_option linter.unusedVariables false
set_option linter.unusedSimpArgs false
def impl_AllLargest.f (a0_0 : Int) (a0_1 : Int) (l0_2 : List Int) : Option ((List (List Int)) × Bool) := (impl_IsBoard.f a0_0 a0_1 l0_2).bind fun t102 => (if t102 = true then ((impl_Board_largest.f a0_0 a0_1 l0_2).bind fun t103 => (if (t103.length : Int) > 300 then (some (([] : List (List Int)), false)) else (some (t103, true)))) else (some (([] : List (List Int)), false)))
set_option maxHeartbeats 8000000 in
set_option maxRecDepth 100000 in
theorem impl_AllLargest.calls (a0_0 : Int) (a0_1 : Int) (A0_2 : Option Addr) (c0_2 : Nat) (l0_2 : List Int) (r1 : List (List Int)) (r2 : Bool) (w : World) (hr0_2 : Kd.C (Kd.int .i64) w A0_2 l0_2.length l0_2) (hc0_2 : l0_2.length ≤ c0_2) (h : impl_AllLargest.f a0_0 a0_1 l0_2 = some (r1, r2)) :
    Calls Try.prog 53 #[.agg #[.int .i64 a0_0, .int .i64 a0_1, .slice A0_2 l0_2.length c0_2]] w fun e w' => ∃ v0_ : Value, e = .returned (.tuple #[v0_, .bool r2]) ∧ Kd.S (Kd.slice 3 (Kd.int .i64)) 24 w' w.heap.size (fun _ => True) v0_ r1 ∧ Below w.heap.size w w' := by
  have hu26 := Try.underlying26
  have HR0_2 := Aside0.mk hr0_2
  have HC0_2 := Aside0.mk hc0_2
  clear hr0_2 hc0_2
  have HB := Aside0.mk (Below.refl w.heap.size w)
  have H : ((impl_IsBoard.f a0_0 a0_1 l0_2).bind fun t102 => (if t102 = true then ((impl_Board_largest.f a0_0 a0_1 l0_2).bind fun t103 => (if (t103.length : Int) > 300 then (some (([] : List (List Int)), false)) else (some (t103, true)))) else (some (([] : List (List Int)), false)))) = some (r1, r2) := h
  clear h
  replace H := Option.bind_eq_some_iff.mp H
  obtain ⟨t102, A20, H⟩ := H
  replace H : (if t102 = true then ((impl_Board_largest.f a0_0 a0_1 l0_2).bind fun t103 => (if (t103.length : Int) > 300 then (some (([] : List (List Int)), false)) else (some (t103, true)))) else (some (([] : List (List Int)), false))) = some (r1, r2) := H
  have A2 := Aside0.mk A20
  clear A20
  by_cases c3 : t102 = true
  · subst c3
    have H1 : ((impl_Board_largest.f a0_0 a0_1 l0_2).bind fun t103 => (if (t103.length : Int) > 300 then (some (([] : List (List Int)), false)) else (some (t103, true)))) = some (r1, r2) := by rw [if_pos rfl] at H; exact H
    clear H
    have H := H1
    clear H1
    replace H := Option.bind_eq_some_iff.mp H
    obtain ⟨t103, A40, H⟩ := H
    replace H : (if (t103.length : Int) > 300 then (some (([] : List (List Int)), false)) else (some (t103, true))) = some (r1, r2) := H
    have A4 := Aside0.mk A40
    clear A40
    by_cases c5 : (t103.length : Int) > 300
    · rw [if_pos c5] at H
      have c5b0 : decide (300 < (t103.length : Int)) = true := decide_eq_true c5
      have c5b1 : decide (300 < t103.length) = true := decide_eq_true (by omega)
      clear c5
      simp only [Option.some.injEq, Prod.mk.injEq] at H
      obtain ⟨rfl, rfl⟩ := H
      go_enter Try.func53, Try.ntmps53
      go_wp2_with (first | ((with_reducible refine gate_dst (N := 1) rfl ?_); refine box_event ?hg (N := 1) ?hd (cs := #[.int .i64 a0_0, .int .i64 a0_1, .slice A0_2 l0_2.length c0_2]) (t := 26) ?hr ?_; (case hd => rfl); (case hg => rfl); (case hr => first | (go_simp; done) | (go_simp; rfl)); intro gb101 hg w6 hbox hb; have n0_ := Aside0.mk (below_step (by repeat (first | (with_reducible first | exact HB.out | apply below_alloc | apply pw_below_drewN | apply below_drew1) | exact HB.out)) hb); have n1_ := Aside0.mk (hbox); have n2_ := Aside0.mk ((by rw [hg]; exact (below_size (by repeat (first | (with_reducible first | exact HB.out | apply below_alloc | apply pw_below_drewN | apply below_drew1) | exact HB.out))) : w.heap.size ≤ gb101)); have n3_ := Aside0.mk ((by rw [hg]; exact (below_size (by repeat (first | (with_reducible first | exact HB.out | apply below_alloc | apply pw_below_drewN | apply below_drew1) | exact HB.out))) : w.heap.size ≤ gb101)); clear HB; have HB := n0_; have BK101 := n1_; have GW101 := n2_; have GE101 := n3_; clear n0_ n1_ n2_ n3_; clear hb hbox hg; have hcz7_0 : w6.cell? ⟨gb101, 0, none⟩ = some (.int .i64 a0_0) := (blk_cell BK101.out 0).trans rfl; have hcz7_1 : w6.cell? ⟨gb101, 1, none⟩ = some (.int .i64 a0_1) := (blk_cell BK101.out 1).trans rfl; have hcz7_2 : w6.cell? ⟨gb101, 2, none⟩ = some (.slice A0_2 l0_2.length c0_2) := (blk_cell BK101.out 2).trans rfl; have hfz7_0 := blk_frozen BK101.out 0; have hfz7_1 := blk_frozen BK101.out 1; have hfz7_2 := blk_frozen BK101.out 2) | ((with_reducible refine gate_callee (f := 71) rfl ?_); refine goesL_ (some 6) rfl rfl Try.func71 (by kernel_rfl) rfl #[.agg #[.int .i64 a0_0, .int .i64 a0_1, .slice A0_2 l0_2.length c0_2]] rfl (by (try simp only [List.map_toArray, List.map_cons, List.map_nil]); first | done | rfl | (simp only [List.length_drop, List.length_take]; rfl)) ?_; (with_reducible refine (impl_IsBoard.calls a0_0 a0_1 _ _ l0_2 true _ ?side1 ?side2 A2.out).mono ?_); (case side1 => repeat (first | exact (Kd.C_below HR0_2.out HB.out) | (with_reducible refine Kd.C_alloc ?_ _) | (with_reducible refine Kd.C_drewN ?_ _) | (with_reducible refine Kd.C_drew ?_))); (case side2 => exact HC0_2.out); rintro e w8 ⟨rfl, hb⟩; refine ⟨_, rfl, ?_⟩; have n0_ := Aside0.mk (blk_below (g := gb101) (o := .cells #[.int .i64 a0_0, .int .i64 a0_1, .slice A0_2 l0_2.length c0_2] 26 (0, 0)) (by (with_reducible repeat (first | refine blk_drewN ?_ _ | refine blk_drew ?_ | refine blk_alloc ?_ _)); exact BK101.out) hb); have n1_ := Aside0.mk (below_step (by repeat (first | (with_reducible first | exact HB.out | apply below_alloc | apply pw_below_drewN | apply below_drew1 | refine below_set ?_ GE101.out) | exact HB.out)) hb); clear BK101; clear HB; have BK101 := n0_; have HB := n1_; clear n0_ n1_; (try clear hb); (try clear hb2); (try clear hk); (try clear hi); have hcz9_0 : w8.cell? ⟨gb101, 0, none⟩ = some (.int .i64 a0_0) := (blk_cell BK101.out 0).trans rfl; have hcz9_1 : w8.cell? ⟨gb101, 1, none⟩ = some (.int .i64 a0_1) := (blk_cell BK101.out 1).trans rfl; have hcz9_2 : w8.cell? ⟨gb101, 2, none⟩ = some (.slice A0_2 l0_2.length c0_2) := (blk_cell BK101.out 2).trans rfl; have hfz9_0 := blk_frozen BK101.out 0; have hfz9_1 := blk_frozen BK101.out 1; have hfz9_2 := blk_frozen BK101.out 2) | ((with_reducible refine gate_callee (f := 107) rfl ?_); refine goesL_ (some 9) rfl rfl Try.func107 (by kernel_rfl) rfl #[.agg #[.int .i64 a0_0, .int .i64 a0_1, .slice A0_2 l0_2.length c0_2]] rfl (by (try simp only [List.map_toArray, List.map_cons, List.map_nil]); first | done | rfl | (simp only [List.length_drop, List.length_take]; rfl)) ?_; (with_reducible refine (impl_Board_largest.calls a0_0 a0_1 _ _ l0_2 t103 _ ?side1 ?side2 A4.out).mono ?_); (case side1 => repeat (first | exact (Kd.C_below HR0_2.out HB.out) | (with_reducible refine Kd.C_alloc ?_ _) | (with_reducible refine Kd.C_drewN ?_ _) | (with_reducible refine Kd.C_drew ?_))); (case side2 => exact HC0_2.out); rintro e w10 ⟨v104, rfl, ho0, hb⟩; refine ⟨_, rfl, ?_⟩; have n0_ := Aside0.mk (Kd.S_lower ho0 (below_size (by repeat (first | (with_reducible first | exact HB.out | apply below_alloc | apply pw_below_drewN | apply below_drew1 | refine below_set ?_ GE101.out) | exact HB.out)))); have n1_ := Aside0.mk (blk_below (g := gb101) (o := .cells #[.int .i64 a0_0, .int .i64 a0_1, .slice A0_2 l0_2.length c0_2] 26 (0, 0)) (by (with_reducible repeat (first | refine blk_drewN ?_ _ | refine blk_drew ?_ | refine blk_alloc ?_ _)); exact BK101.out) hb); have n2_ := Aside0.mk (below_step (by repeat (first | (with_reducible first | exact HB.out | apply below_alloc | apply pw_below_drewN | apply below_drew1 | refine below_set ?_ GE101.out) | exact HB.out)) hb); clear BK101; clear HB; have HO105 := n0_; have BK101 := n1_; have HB := n2_; clear n0_ n1_ n2_; (try clear hb); (try clear hb2); (try clear hk); (try clear hi); (try clear ho0); obtain ⟨Ao11, co11, eo11⟩ := Kd.S_slice HO105.out; subst eo11))
      go_ret2
      exact ⟨_, by first | rfl | (simp [errW_none, errW_some] <;> rfl) | (simp [*, errW_none, errW_some] <;> rfl), by first | exact Kd.S_nil _ _ _ _ _ | exact Kd.N_nil _ _ _ _ _ | exact Kd.V_nil _ _ _ _ _ | exact Kd.Q_nil _ _ _ _ _ | exact Kd.R_nil _ _ _ _ _, by repeat (first | (with_reducible first | exact HB.out | apply below_alloc | apply pw_below_drewN | apply below_drew1 | refine below_set ?_ GE101.out) | exact HB.out)⟩
    · rw [if_neg c5] at H
      have c5b0 : decide (300 < (t103.length : Int)) = false := decide_eq_false c5
      have c5b1 : decide (300 < t103.length) = false := decide_eq_false (by omega)
      clear c5
      simp only [Option.some.injEq, Prod.mk.injEq] at H
      obtain ⟨rfl, rfl⟩ := H
      go_enter Try.func53, Try.ntmps53
      go_wp2_with (first | ((with_reducible refine gate_dst (N := 1) rfl ?_); refine box_event ?hg (N := 1) ?hd (cs := #[.int .i64 a0_0, .int .i64 a0_1, .slice A0_2 l0_2.length c0_2]) (t := 26) ?hr ?_; (case hd => rfl); (case hg => rfl); (case hr => first | (go_simp; done) | (go_simp; rfl)); intro gb101 hg w12 hbox hb; have n0_ := Aside0.mk (below_step (by repeat (first | (with_reducible first | exact HB.out | apply below_alloc | apply pw_below_drewN | apply below_drew1) | exact HB.out)) hb); have n1_ := Aside0.mk (hbox); have n2_ := Aside0.mk ((by rw [hg]; exact (below_size (by repeat (first | (with_reducible first | exact HB.out | apply below_alloc | apply pw_below_drewN | apply below_drew1) | exact HB.out))) : w.heap.size ≤ gb101)); have n3_ := Aside0.mk ((by rw [hg]; exact (below_size (by repeat (first | (with_reducible first | exact HB.out | apply below_alloc | apply pw_below_drewN | apply below_drew1) | exact HB.out))) : w.heap.size ≤ gb101)); clear HB; have HB := n0_; have BK101 := n1_; have GW101 := n2_; have GE101 := n3_; clear n0_ n1_ n2_ n3_; clear hb hbox hg; have hcz13_0 : w12.cell? ⟨gb101, 0, none⟩ = some (.int .i64 a0_0) := (blk_cell BK101.out 0).trans rfl; have hcz13_1 : w12.cell? ⟨gb101, 1, none⟩ = some (.int .i64 a0_1) := (blk_cell BK101.out 1).trans rfl; have hcz13_2 : w12.cell? ⟨gb101, 2, none⟩ = some (.slice A0_2 l0_2.length c0_2) := (blk_cell BK101.out 2).trans rfl; have hfz13_0 := blk_frozen BK101.out 0; have hfz13_1 := blk_frozen BK101.out 1; have hfz13_2 := blk_frozen BK101.out 2) | ((with_reducible refine gate_callee (f := 71) rfl ?_); refine goesL_ (some 6) rfl rfl Try.func71 (by kernel_rfl) rfl #[.agg #[.int .i64 a0_0, .int .i64 a0_1, .slice A0_2 l0_2.length c0_2]] rfl (by (try simp only [List.map_toArray, List.map_cons, List.map_nil]); first | done | rfl | (simp only [List.length_drop, List.length_take]; rfl)) ?_; (with_reducible refine (impl_IsBoard.calls a0_0 a0_1 _ _ l0_2 true _ ?side1 ?side2 A2.out).mono ?_); (case side1 => repeat (first | exact (Kd.C_below HR0_2.out HB.out) | (with_reducible refine Kd.C_alloc ?_ _) | (with_reducible refine Kd.C_drewN ?_ _) | (with_reducible refine Kd.C_drew ?_))); (case side2 => exact HC0_2.out); rintro e w14 ⟨rfl, hb⟩; refine ⟨_, rfl, ?_⟩; have n0_ := Aside0.mk (blk_below (g := gb101) (o := .cells #[.int .i64 a0_0, .int .i64 a0_1, .slice A0_2 l0_2.length c0_2] 26 (0, 0)) (by (with_reducible repeat (first | refine blk_drewN ?_ _ | refine blk_drew ?_ | refine blk_alloc ?_ _)); exact BK101.out) hb); have n1_ := Aside0.mk (below_step (by repeat (first | (with_reducible first | exact HB.out | apply below_alloc | apply pw_below_drewN | apply below_drew1 | refine below_set ?_ GE101.out) | exact HB.out)) hb); clear BK101; clear HB; have BK101 := n0_; have HB := n1_; clear n0_ n1_; (try clear hb); (try clear hb2); (try clear hk); (try clear hi); have hcz15_0 : w14.cell? ⟨gb101, 0, none⟩ = some (.int .i64 a0_0) := (blk_cell BK101.out 0).trans rfl; have hcz15_1 : w14.cell? ⟨gb101, 1, none⟩ = some (.int .i64 a0_1) := (blk_cell BK101.out 1).trans rfl; have hcz15_2 : w14.cell? ⟨gb101, 2, none⟩ = some (.slice A0_2 l0_2.length c0_2) := (blk_cell BK101.out 2).trans rfl; have hfz15_0 := blk_frozen BK101.out 0; have hfz15_1 := blk_frozen BK101.out 1; have hfz15_2 := blk_frozen BK101.out 2) | ((with_reducible refine gate_callee (f := 107) rfl ?_); refine goesL_ (some 9) rfl rfl Try.func107 (by kernel_rfl) rfl #[.agg #[.int .i64 a0_0, .int .i64 a0_1, .slice A0_2 l0_2.length c0_2]] rfl (by (try simp only [List.map_toArray, List.map_cons, List.map_nil]); first | done | rfl | (simp only [List.length_drop, List.length_take]; rfl)) ?_; (with_reducible refine (impl_Board_largest.calls a0_0 a0_1 _ _ l0_2 t103 _ ?side1 ?side2 A4.out).mono ?_); (case side1 => repeat (first | exact (Kd.C_below HR0_2.out HB.out) | (with_reducible refine Kd.C_alloc ?_ _) | (with_reducible refine Kd.C_drewN ?_ _) | (with_reducible refine Kd.C_drew ?_))); (case side2 => exact HC0_2.out); rintro e w16 ⟨v104, rfl, ho0, hb⟩; refine ⟨_, rfl, ?_⟩; have n0_ := Aside0.mk (Kd.S_lower ho0 (below_size (by repeat (first | (with_reducible first | exact HB.out | apply below_alloc | apply pw_below_drewN | apply below_drew1 | refine below_set ?_ GE101.out) | exact HB.out)))); have n1_ := Aside0.mk (blk_below (g := gb101) (o := .cells #[.int .i64 a0_0, .int .i64 a0_1, .slice A0_2 l0_2.length c0_2] 26 (0, 0)) (by (with_reducible repeat (first | refine blk_drewN ?_ _ | refine blk_drew ?_ | refine blk_alloc ?_ _)); exact BK101.out) hb); have n2_ := Aside0.mk (below_step (by repeat (first | (with_reducible first | exact HB.out | apply below_alloc | apply pw_below_drewN | apply below_drew1 | refine below_set ?_ GE101.out) | exact HB.out)) hb); clear BK101; clear HB; have HO105 := n0_; have BK101 := n1_; have HB := n2_; clear n0_ n1_ n2_; (try clear hb); (try clear hb2); (try clear hk); (try clear hi); (try clear ho0); obtain ⟨Ao17, co17, eo17⟩ := Kd.S_slice HO105.out; subst eo17))
      go_ret2
      exact ⟨_, by first | rfl | (simp [errW_none, errW_some] <;> rfl) | (simp [*, errW_none, errW_some] <;> rfl), by (with_reducible repeat (first | apply Kd.S_alloc | apply Kd.S_drewN | apply Kd.S_drew)); exact HO105.out, by repeat (first | (with_reducible first | exact HB.out | apply below_alloc | apply pw_below_drewN | apply below_drew1 | refine below_set ?_ GE101.out) | exact HB.out)⟩
  · replace c3 := Bool.eq_false_iff.mpr c3
    subst c3
    have H1 : (some (([] : List (List Int)), false)) = some (r1, r2) := by rw [if_neg (show ¬ (false = true) by decide)] at H; exact H
    clear H
    have H := H1
    clear H1
    simp only [Option.some.injEq, Prod.mk.injEq] at H
    obtain ⟨rfl, rfl⟩ := H
    go_enter Try.func53, Try.ntmps53
    go_wp2_with (first | ((with_reducible refine gate_dst (N := 1) rfl ?_); refine box_event ?hg (N := 1) ?hd (cs := #[.int .i64 a0_0, .int .i64 a0_1, .slice A0_2 l0_2.length c0_2]) (t := 26) ?hr ?_; (case hd => rfl); (case hg => rfl); (case hr => first | (go_simp; done) | (go_simp; rfl)); intro gb101 hg w18 hbox hb; have n0_ := Aside0.mk (below_step (by repeat (first | (with_reducible first | exact HB.out | apply below_alloc | apply pw_below_drewN | apply below_drew1) | exact HB.out)) hb); have n1_ := Aside0.mk (hbox); have n2_ := Aside0.mk ((by rw [hg]; exact (below_size (by repeat (first | (with_reducible first | exact HB.out | apply below_alloc | apply pw_below_drewN | apply below_drew1) | exact HB.out))) : w.heap.size ≤ gb101)); have n3_ := Aside0.mk ((by rw [hg]; exact (below_size (by repeat (first | (with_reducible first | exact HB.out | apply below_alloc | apply pw_below_drewN | apply below_drew1) | exact HB.out))) : w.heap.size ≤ gb101)); clear HB; have HB := n0_; have BK101 := n1_; have GW101 := n2_; have GE101 := n3_; clear n0_ n1_ n2_ n3_; clear hb hbox hg; have hcz19_0 : w18.cell? ⟨gb101, 0, none⟩ = some (.int .i64 a0_0) := (blk_cell BK101.out 0).trans rfl; have hcz19_1 : w18.cell? ⟨gb101, 1, none⟩ = some (.int .i64 a0_1) := (blk_cell BK101.out 1).trans rfl; have hcz19_2 : w18.cell? ⟨gb101, 2, none⟩ = some (.slice A0_2 l0_2.length c0_2) := (blk_cell BK101.out 2).trans rfl; have hfz19_0 := blk_frozen BK101.out 0; have hfz19_1 := blk_frozen BK101.out 1; have hfz19_2 := blk_frozen BK101.out 2) | ((with_reducible refine gate_callee (f := 71) rfl ?_); refine goesL_ (some 6) rfl rfl Try.func71 (by kernel_rfl) rfl #[.agg #[.int .i64 a0_0, .int .i64 a0_1, .slice A0_2 l0_2.length c0_2]] rfl (by (try simp only [List.map_toArray, List.map_cons, List.map_nil]); first | done | rfl | (simp only [List.length_drop, List.length_take]; rfl)) ?_; (with_reducible refine (impl_IsBoard.calls a0_0 a0_1 _ _ l0_2 false _ ?side1 ?side2 A2.out).mono ?_); (case side1 => repeat (first | exact (Kd.C_below HR0_2.out HB.out) | (with_reducible refine Kd.C_alloc ?_ _) | (with_reducible refine Kd.C_drewN ?_ _) | (with_reducible refine Kd.C_drew ?_))); (case side2 => exact HC0_2.out); rintro e w20 ⟨rfl, hb⟩; refine ⟨_, rfl, ?_⟩; have n0_ := Aside0.mk (blk_below (g := gb101) (o := .cells #[.int .i64 a0_0, .int .i64 a0_1, .slice A0_2 l0_2.length c0_2] 26 (0, 0)) (by (with_reducible repeat (first | refine blk_drewN ?_ _ | refine blk_drew ?_ | refine blk_alloc ?_ _)); exact BK101.out) hb); have n1_ := Aside0.mk (below_step (by repeat (first | (with_reducible first | exact HB.out | apply below_alloc | apply pw_below_drewN | apply below_drew1 | refine below_set ?_ GE101.out) | exact HB.out)) hb); clear BK101; clear HB; have BK101 := n0_; have HB := n1_; clear n0_ n1_; (try clear hb); (try clear hb2); (try clear hk); (try clear hi)))
    go_ret2
    exact ⟨_, by first | rfl | (simp [errW_none, errW_some] <;> rfl) | (simp [*, errW_none, errW_some] <;> rfl), by first | exact Kd.S_nil _ _ _ _ _ | exact Kd.N_nil _ _ _ _ _ | exact Kd.V_nil _ _ _ _ _ | exact Kd.Q_nil _ _ _ _ _ | exact Kd.R_nil _ _ _ _ _, by repeat (first | (with_reducible first | exact HB.out | apply below_alloc | apply pw_below_drewN | apply below_drew1 | refine below_set ?_ GE101.out) | exact HB.out)⟩
end Go.Proofs.Ytgnmcfoenmfhcaa.Q
end
section
namespace Go.Proofs.Ytgnmcfoenmfhcaa.Q
set_option linter.unusedVariables false
open Go.RowKit Go.Proofs.YtgnmcfoenmfhcaaW.PrintWords Go.Proofs.YtgnmcfoenmfhcaaW.PrintLast Go.Proofs.YtgnmcfoenmfhcaaW.PrintMore
open Go.Proofs.YtgnmcfoenmfhcaaL Go.Proofs.Ytgnmcfoenmfhcaa.LawK Go.Proofs.Ytgnmcfoenmfhcaa.BoardK Go.Proofs.Ytgnmcfoenmfhcaa.LinesK Go.Proofs.Ytgnmcfoenmfhcaa.AllK
theorem ans_AllLargest (r c : Int) (l : List Int) (hl : l.length ≤ 1048576) : ∃ (rows : List (List Int)) (ok : Bool), rows.length ≤ 1000000 ∧ (∀ x ∈ rows, x.length ≤ 1000) ∧ (∃ k, spec_AllLargest.f k r c l = some (rows, ok)) ∧ impl_AllLargest.f r c l = some (rows, ok) := by
  by_cases hb : isBoardB r c l = true
  · obtain ⟨R, C, rfl, rfl, hlR, h1R, hR, h1C, hC, hbits⟩ := board_of hb
    have hlen := largest_len (l := l) hC hR
    have hrow := largest_row (l := l) hC (R := R)
    have hL := lcLargest hlR hR hC (fun i hi => ⟨(hbits i hi).1, by have := (hbits i hi).2; have h3 := two_pow_six hC; omega⟩)
    by_cases h : (((largestS l C R).length : Nat) : Int) > 300
    · refine ⟨[], false, by simp, by simp, Ev.rounds ?_, ?_⟩
      · unfold spec_AllLargest.f
        refine Ev.bind (boGood R C (by omega)) ?_
        refine Ev.congr (fun k => by rw [if_pos hb]) ?_
        refine Ev.bind hL ?_
        exact Ev.congr (fun k => by rw [if_pos h]) (Ev.now _)
      · unfold impl_AllLargest.f
        rw [impl_IsBoard.f, Option.bind_some, if_pos hb, impl_Board_largest.f, if_pos hb, Option.bind_some, Int.toNat_natCast, hlR, if_pos h]
    · refine ⟨largestS l C R, true, by omega, fun x hx => by have := hrow x hx; omega, Ev.rounds ?_, ?_⟩
      · unfold spec_AllLargest.f
        refine Ev.bind (boGood R C (by omega)) ?_
        refine Ev.congr (fun k => by rw [if_pos hb]) ?_
        refine Ev.bind hL ?_
        exact Ev.congr (fun k => by rw [if_neg h]) (Ev.now _)
      · unfold impl_AllLargest.f
        rw [impl_IsBoard.f, Option.bind_some, if_pos hb, impl_Board_largest.f, if_pos hb, Option.bind_some, Int.toNat_natCast, hlR, if_neg h]
  · refine ⟨[], false, by simp, by simp, Ev.rounds ?_, ?_⟩
    · unfold spec_AllLargest.f
      refine Ev.bind (boGood r c (by omega)) ?_
      exact Ev.congr (fun k => by rw [if_neg hb]) (Ev.now _)
    · unfold impl_AllLargest.f
      rw [impl_IsBoard.f, Option.bind_some, if_neg hb]
end Go.Proofs.Ytgnmcfoenmfhcaa.Q
end
section
namespace Go.Proofs.Ytgnmcfoenmfhcaa.Q
set_option linter.unusedVariables false
set_option linter.unusedSimpArgs false
open Go.RowKit Go.Proofs.YtgnmcfoenmfhcaaW.PrintWords Go.Proofs.YtgnmcfoenmfhcaaW.PrintLast Go.Proofs.YtgnmcfoenmfhcaaW.PrintMore
open Go.Proofs.YtgnmcfoenmfhcaaL Go.Proofs.Ytgnmcfoenmfhcaa.LawK Go.Proofs.Ytgnmcfoenmfhcaa.BoardK Go.Proofs.Ytgnmcfoenmfhcaa.MarkK
set_option maxHeartbeats 16000000 in
set_option maxRecDepth 100000 in
theorem laws_FnExactAllLargest.walk (a0_0 a0_1 : Int) (a0_2 : Option Addr) (len0_2 cap0_2 : Nat) (z0_2 : List Int) (w : World) (w0_0 : (Lit.int .i64 a0_0).wf = true) (w0_1 : (Lit.int .i64 a0_1).wf = true)
    (w0_2 : (a0_2 = none ∧ len0_2 = 0 ∧ cap0_2 = 0 ∧ z0_2 = []) ∨ ∃ x, a0_2 = some x ∧ len0_2 ≤ cap0_2 ∧ cap0_2 ≤ maxLen ∧ z0_2.length = cap0_2 ∧ (∀ i, i < z0_2.length → w.cell? (x.add i) = some (.int .i64 (z0_2.getD i 0))) ∧ ∀ n ∈ z0_2, (Lit.int .i64 n).wf = true) (y0_2 : len0_2 * 8 ≤ 140737488351232) :
    Calls Try.prog 11 #[.agg #[.int .i64 a0_0, .int .i64 a0_1, .slice a0_2 len0_2 cap0_2]] w fun e w' => e = .returned (.bool true) ∧ Below w.heap.size w w' := by
  obtain ⟨l, rfl, hr, hm, hw, hc⟩ := ReadsInt.ofRowC w0_2
  have hC := Kd.C_of_reads (d := (0 : Int)) (h1 := fun _ => rfl) hr
  have hu24 := Try.underlying36
  have hu25 := Try.underlying26
  have SZ := Lib.hid (fun (W : World) (hb : Below w.heap.size w W) => laws_szBoard.calls a0_0 a0_1 a0_2 cap0_2 l 1048576 _ W (Kd.C_below hC hb) hc (szBoard_f a0_0 a0_1 l y0_2))
  by_cases hlb : l.length ≤ 1048576
  rotate_left
  · rw [if_neg hlb] at SZ
    clear hlb hC hr hm hw hc w0_0 w0_1 w0_2 y0_2
    go_enter Try.func11, Try.ntmps11
    go_wp2_with (first
      | ((with_reducible refine gate_dst (N := 1) rfl ?_); refine box_event ?hg (N := 1) ?hd (cs := #[.int .i64 a0_0, .int .i64 a0_1, .slice a0_2 l.length cap0_2]) (t := 36) ?hr ?_; (case hd => rfl); (case hg => rfl); (case hr => first | (go_simp; done) | (go_simp; rfl)); intro gb hg w1 hbox hb; have K1 := Aside0.mk hbox; have B1 := Aside0.mk hb; clear hg hbox hb; have z1 : w1.cell? ⟨gb, 0, none⟩ = some (.int .i64 a0_0) := (blk_cell K1.out 0).trans rfl; have z2 : w1.cell? ⟨gb, 1, none⟩ = some (.int .i64 a0_1) := (blk_cell K1.out 1).trans rfl; have z3 : w1.cell? ⟨gb, 2, none⟩ = some (.slice a0_2 l.length cap0_2) := (blk_cell K1.out 2).trans rfl)
      | (go_at_call 28; refine (SZ.out _ B1.out).mono ?_; rintro e w2 ⟨rfl, hb⟩; have B2 := Aside0.mk (B1.out.trans (hb.mono B1.out.size)); clear hb))
    go_ret
    exact ⟨rfl, B2.out⟩
  rw [if_pos hlb] at SZ
  obtain ⟨sz, hsz⟩ : ∃ sz : Int, sz = 1048576 - (l.length : Int) := ⟨_, rfl⟩
  rw [← hsz] at SZ
  have hszb : decide (sz < 0) = false := decide_eq_false (by omega)
  obtain ⟨kt, ht⟩ := (toBoard a0_0 a0_1 hlb).rounds
  obtain ⟨rows, ok, hrl, hrx, hSP, hIM⟩ := ans_AllLargest a0_0 a0_1 l hlb
  obtain ⟨kb, hkb⟩ := (eqBoard a0_0 a0_1 (l := l) (by omega)).rounds
  obtain ⟨km, hkm⟩ : ∃ k, laws_markBoard.f k a0_0 a0_1 l 1 = some (1 + (l.length : Int), iota 1 l.length) := Ev.rounds (show Ev (fun k => laws_markBoard.f k a0_0 a0_1 l 1) (1 + (l.length : Int), iota 1 l.length) by unfold laws_markBoard.f; exact Ev.bind (markIntS l (by omega) (by omega)) (Ev.now _))
  obtain ⟨ke, hke⟩ := (eqIntSS (a := rows) (b := rows) (by omega) (fun x hx => by have := hrx x hx; omega)).rounds
  rw [decide_eq_true rfl] at hke
  have htot : total rows ≤ 1000000 * 1000 := total_le hrl hrx
  obtain ⟨kh, hkh⟩ := (heldIntSS rows (m := 1) (by omega) (by omega) (by omega)).rounds
  obtain ⟨tot, htt⟩ : ∃ tot : Int, tot = 1 + (total rows : Int) := ⟨_, rfl⟩
  rw [← htt] at hkh
  have ht0 : decide (tot < 0) = false := decide_eq_false (by omega)
  obtain ⟨mb, hmb⟩ : ∃ mb : Int, mb = 1 + (l.length : Int) := ⟨_, rfl⟩
  rw [← hmb] at hkm
  have hmb0 : decide (mb < 0) = false := decide_eq_false (by omega)
  have TB := Lib.hid (fun (W : World) (hb : Below w.heap.size w W) => laws_toBoard.calls kt a0_0 a0_1 a0_2 cap0_2 l _ _ _ W (Kd.C_below hC hb) hc ht)
  have SP := Lib.hid (fun (W : World) (A : Option Addr) (c : Nat) (h : Kd.R (Kd.int .i64) 3 W 0 (fun _ => True) (.slice A l.length c) l) => spec_AllLargest.calls hSP.choose a0_0 a0_1 A c l rows ok W (Kd.R_reads' h).2.2 (Kd.R_reads' h).2.1 hSP.choose_spec)
  have IM := Lib.hid (fun (W : World) (A : Option Addr) (c : Nat) (h : Kd.R (Kd.int .i64) 3 W 0 (fun _ => True) (.slice A l.length c) l) => impl_AllLargest.calls a0_0 a0_1 A c l rows ok W (Kd.R_reads' h).2.2 (Kd.R_reads' h).2.1 hIM)
  have EB := Lib.hid (fun (W : World) (A : Option Addr) (c : Nat) (h : Kd.R (Kd.int .i64) 3 W 0 (fun _ => True) (.slice A l.length c) l) (A2 : Option Addr) (c2 : Nat) (h2 : Kd.R (Kd.int .i64) 3 W 0 (fun _ => True) (.slice A2 l.length c2) l) => laws_eqBoard.calls kb a0_0 a0_1 A c l a0_0 a0_1 A2 c2 l true W (Kd.R_reads' h).2.2 (Kd.R_reads' h).2.1 (Kd.R_reads' h2).2.2 (Kd.R_reads' h2).2.1 hkb)
  have ES := Lib.hid (fun (W : World) (A : Option Addr) (c : Nat) (h : Kd.V (Kd.slice 3 (Kd.int .i64)) 24 W 0 (fun _ => True) (.slice A rows.length c) rows) (A2 : Option Addr) (c2 : Nat) (h2 : Kd.V (Kd.slice 3 (Kd.int .i64)) 24 W 0 (fun _ => True) (.slice A2 rows.length c2) rows) => laws_eqIntSS.calls ke A c rows A2 c2 rows true W (Kd.V_reads' h).2.2 (Kd.V_reads' h).2.1 (Kd.V_reads' h2).2.2 (Kd.V_reads' h2).2.1 hke)
  have HD := Lib.hid (fun (W : World) (A : Option Addr) (c : Nat) (h : Kd.V (Kd.slice 3 (Kd.int .i64)) 24 W 0 (fun _ => True) (.slice A (marks 1 rows).length c) (marks 1 rows)) => laws_heldIntSS.calls kh A c (marks 1 rows) 1 tot W (Kd.V_reads' h).2.2 (Kd.V_reads' h).2.1 hkh)
  have hml := marks_length rows 1
  rw [hml] at HD
  have MB := Lib.hid (fun (W w0 : World) (hB : Below w0.heap.size w0 W) (u : Value) (h : Kd.R (Kd.int .i64) 3 W w0.heap.size (fun k_ => some k_ = u.ownBlock) u l) => laws_markBoard.calls km a0_0 a0_1 (fun k_ => some k_ = u.ownBlock) u l 1 _ _ w0 W hB h hkm)
  have MS := Lib.hid (fun (W w0 : World) (bs : Nat) (P : Nat → Prop) (v : Value) (ho : Kd.S (Kd.slice 3 (Kd.int .i64)) 24 W bs P v rows) (hbs : w0.heap.size ≤ bs) (hB : Below w0.heap.size w0 W) => markIntSS_calls P v rows 1 w0 W bs ho hbs hB (by omega) (by omega) (by omega))
  rw [← htt] at MS
  clear hlb hC hr hm hw hc w0_0 w0_1 w0_2 y0_2 hsz ht hrl hrx hSP hIM hkb hkm hke htot hkh htt hmb hml
  go_enter Try.func11, Try.ntmps11
  go_wp2_with ((with_reducible refine gate_dst (N := 1) rfl ?_); refine box_event ?hg (N := 1) ?hd (cs := #[.int .i64 a0_0, .int .i64 a0_1, .slice a0_2 l.length cap0_2]) (t := 36) ?hr ?_; (case hd => rfl); (case hg => rfl); (case hr => first | (go_simp; done) | (go_simp; rfl)); intro gb hg w1 hbox hb; have KB := Aside0.mk hbox; have BW := Aside0.mk hb; have GB := Aside0.mk (show gb < w1.heap.size from blk_lt hbox); clear hg hbox hb; have z1 : w1.cell? ⟨gb, 0, none⟩ = some (.int .i64 a0_0) := (blk_cell KB.out 0).trans rfl; have z2 : w1.cell? ⟨gb, 1, none⟩ = some (.int .i64 a0_1) := (blk_cell KB.out 1).trans rfl; have z3 : w1.cell? ⟨gb, 2, none⟩ = some (.slice a0_2 l.length cap0_2) := (blk_cell KB.out 2).trans rfl)
  go_at_call 28; refine (SZ.out _ BW.out).mono ?_; rintro e w2 ⟨rfl, hb⟩; have KB_ := Aside0.mk (blk_below (by (with_reducible repeat (first | refine blk_drewN ?_ _ | refine blk_drew ?_ | refine blk_alloc ?_ _)); exact KB.out) hb); have BW_ := Aside0.mk (below_step (by repeat (first | (with_reducible first | exact BW.out | apply below_alloc | apply pw_below_drewN | apply below_drew1) | exact BW.out)) hb); clear KB; have KB := KB_; clear KB_; clear BW; have BW := BW_; clear BW_; clear hb
  have ya0 : w2.cell? ⟨gb, 0, none⟩ = some (.int .i64 a0_0) := (blk_cell KB.out 0).trans rfl; have ya1 : w2.cell? ⟨gb, 1, none⟩ = some (.int .i64 a0_1) := (blk_cell KB.out 1).trans rfl; have ya2 : w2.cell? ⟨gb, 2, none⟩ = some (.slice a0_2 l.length cap0_2) := (blk_cell KB.out 2).trans rfl
  go_wp2_with fail
  go_at_call 29; refine (TB.out _ (by repeat (first | (with_reducible first | exact BW.out | apply below_alloc | apply pw_below_drewN | apply below_drew1) | exact BW.out))).mono ?_; rintro e w3 ⟨v1, rfl, ho, hb⟩; obtain ⟨A1, c1, rfl⟩ := Kd.R_slice ho; have KB_ := Aside0.mk (blk_below (by (with_reducible repeat (first | refine blk_drewN ?_ _ | refine blk_drew ?_ | refine blk_alloc ?_ _)); exact KB.out) hb); have BW_ := Aside0.mk (below_step (by repeat (first | (with_reducible first | exact BW.out | apply below_alloc | apply pw_below_drewN | apply below_drew1) | exact BW.out)) hb); clear KB; have KB := KB_; clear KB_; clear BW; have BW := BW_; clear BW_; have O1 := Aside0.mk (Kd.R_mono (Kd.R_lower ho (Nat.zero_le _)) (ok' := fun _ => True) (fun _ _ => trivial)); clear ho hb
  have yb0 : w3.cell? ⟨gb, 0, none⟩ = some (.int .i64 a0_0) := (blk_cell KB.out 0).trans rfl; have yb1 : w3.cell? ⟨gb, 1, none⟩ = some (.int .i64 a0_1) := (blk_cell KB.out 1).trans rfl; have yb2 : w3.cell? ⟨gb, 2, none⟩ = some (.slice a0_2 l.length cap0_2) := (blk_cell KB.out 2).trans rfl
  go_wp2_with fail
  go_at_call 52; refine (SP.out _ A1 c1 (by (with_reducible repeat (first | apply Kd.R_alloc | apply Kd.R_drewN | apply Kd.R_drew)); exact O1.out)).mono ?_; rintro e w4 ⟨v0, rfl, ho, hb⟩; have KB_ := Aside0.mk (blk_below (by (with_reducible repeat (first | refine blk_drewN ?_ _ | refine blk_drew ?_ | refine blk_alloc ?_ _)); exact KB.out) hb); have BW_ := Aside0.mk (below_step (by repeat (first | (with_reducible first | exact BW.out | apply below_alloc | apply pw_below_drewN | apply below_drew1) | exact BW.out)) hb); clear KB; have KB := KB_; clear KB_; clear BW; have BW := BW_; clear BW_; have OW0 : Kd.V (Kd.slice 3 (Kd.int .i64)) 24 w4 0 (fun _ => True) v0 rows := Kd.N_V (Kd.N_mono ho (ok' := fun _ => True) (fun _ _ => trivial)); obtain ⟨AW, cW, hv0⟩ := Kd.V_slice OW0; subst hv0; have OW := Aside0.mk (Kd.V_mono (Kd.V_bound OW0) (ok' := fun k => k < w4.heap.size) (fun _ h => h.2)); clear ho hb OW0 O1
  have L4 := Aside0.mk (Nat.le_refl w4.heap.size)
  have BX := Aside0.mk (Below.refl w4.heap.size w4)
  have BW4 := BW; have G4 := Aside0.mk (show gb < w4.heap.size from blk_lt KB.out); clear BW GB
  have yc0 : w4.cell? ⟨gb, 0, none⟩ = some (.int .i64 a0_0) := (blk_cell KB.out 0).trans rfl; have yc1 : w4.cell? ⟨gb, 1, none⟩ = some (.int .i64 a0_1) := (blk_cell KB.out 1).trans rfl; have yc2 : w4.cell? ⟨gb, 2, none⟩ = some (.slice a0_2 l.length cap0_2) := (blk_cell KB.out 2).trans rfl
  go_wp2_with fail
  go_at_call 29; refine (TB.out _ BW4.out).mono ?_; rintro e w5 ⟨v2, rfl, ho, hb⟩; have BX5 := Aside0.mk (show w4.heap.size ≤ w5.heap.size from hb.size); obtain ⟨AX, cX, rfl⟩ := Kd.R_slice ho; have KB_ := Aside0.mk (blk_below (by (with_reducible repeat (first | refine blk_drewN ?_ _ | refine blk_drew ?_ | refine blk_alloc ?_ _)); exact KB.out) hb); have OW_ := Aside0.mk (Kd.V_below (by (with_reducible repeat (first | apply Kd.V_alloc | apply Kd.V_drewN | apply Kd.V_drew)); exact OW.out) hb); have BX_ := Aside0.mk (below_step (by repeat (first | (with_reducible first | exact BX.out | apply below_alloc | apply pw_below_drewN | apply below_drew1) | exact BX.out)) hb); clear KB; have KB := KB_; clear KB_; clear OW; have OW := OW_; clear OW_; clear BX; have BX := BX_; clear BX_; have OX := Aside0.mk (Kd.R_mono (Kd.R_bound ho) (ok' := fun k => w4.heap.size ≤ k ∧ k < w5.heap.size) (fun _ h => ⟨h.2.1, h.2.2.1⟩)); clear ho hb
  have yd0 : w5.cell? ⟨gb, 0, none⟩ = some (.int .i64 a0_0) := (blk_cell KB.out 0).trans rfl; have yd1 : w5.cell? ⟨gb, 1, none⟩ = some (.int .i64 a0_1) := (blk_cell KB.out 1).trans rfl; have yd2 : w5.cell? ⟨gb, 2, none⟩ = some (.slice a0_2 l.length cap0_2) := (blk_cell KB.out 2).trans rfl
  go_wp2_with fail
  obtain ⟨gx, hgx⟩ : ∃ g : Nat, g = w5.heap.size := ⟨_, rfl⟩
  obtain ⟨w6, hw6⟩ : ∃ W : World, W = w5.alloc (Obj.cells #[.int .i64 a0_0, .int .i64 a0_1, .slice AX l.length cX] 26) := ⟨_, rfl⟩
  rw [← hw6, ← hgx]
  have hb : Below w5.heap.size w5 w6 := by rw [hw6]; exact below_alloc (Below.refl _ _) _
  have NX := Aside0.mk (show gb ≠ gx from fun h => absurd (blk_lt KB.out) (by omega))
  have KB_ := Aside0.mk (blk_below (by (with_reducible repeat (first | refine blk_drewN ?_ _ | refine blk_drew ?_ | refine blk_alloc ?_ _)); exact KB.out) hb); have OW_ := Aside0.mk (Kd.V_below (by (with_reducible repeat (first | apply Kd.V_alloc | apply Kd.V_drewN | apply Kd.V_drew)); exact OW.out) hb); have BX_ := Aside0.mk (below_step (by repeat (first | (with_reducible first | exact BX.out | apply below_alloc | apply pw_below_drewN | apply below_drew1) | exact BX.out)) hb); have OX_ := Aside0.mk (Kd.R_below (by (with_reducible repeat (first | apply Kd.R_alloc | apply Kd.R_drewN | apply Kd.R_drew)); exact OX.out) hb); clear KB; have KB := KB_; clear KB_; clear OW; have OW := OW_; clear OW_; clear BX; have BX := BX_; clear BX_; clear OX; have OX := OX_; clear OX_
  have KX := Aside0.mk (show w6.heap[gx]? = some (Obj.cells #[.int .i64 a0_0, .int .i64 a0_1, .slice AX l.length cX] 26 (0, 0)) by rw [hw6, hgx]; exact Array.getElem?_push_size)
  have L5 := Aside0.mk hgx
  have G56 := Aside0.mk (show w4.heap.size ≤ w5.heap.size from BX5.out)
  have L6 := Aside0.mk (show w6.heap.size = gx + 1 by rw [hw6, hgx]; exact Array.size_push _)
  clear hb hw6 hgx
  have ye0 : w6.cell? ⟨gb, 0, none⟩ = some (.int .i64 a0_0) := (blk_cell KB.out 0).trans rfl; have ye1 : w6.cell? ⟨gb, 1, none⟩ = some (.int .i64 a0_1) := (blk_cell KB.out 1).trans rfl; have ye2 : w6.cell? ⟨gb, 2, none⟩ = some (.slice a0_2 l.length cap0_2) := (blk_cell KB.out 2).trans rfl; have xe0 : w6.cell? ⟨gx, 0, none⟩ = some (.int .i64 a0_0) := (blk_cell KX.out 0).trans rfl; have xe1 : w6.cell? ⟨gx, 1, none⟩ = some (.int .i64 a0_1) := (blk_cell KX.out 1).trans rfl; have xe2 : w6.cell? ⟨gx, 2, none⟩ = some (.slice AX l.length cX) := (blk_cell KX.out 2).trans rfl
  go_at_call 53; refine (IM.out _ AX cX (Kd.R_mono (Kd.R_lower (by (with_reducible repeat (first | apply Kd.R_alloc | apply Kd.R_drewN | apply Kd.R_drew)); exact OX.out) (Nat.zero_le _)) (fun _ _ => trivial))).mono ?_; rintro e w7 ⟨v3, rfl, ho, hb⟩; have KB_ := Aside0.mk (blk_below (by (with_reducible repeat (first | refine blk_drewN ?_ _ | refine blk_drew ?_ | refine blk_alloc ?_ _)); exact KB.out) hb); have OW_ := Aside0.mk (Kd.V_below (by (with_reducible repeat (first | apply Kd.V_alloc | apply Kd.V_drewN | apply Kd.V_drew)); exact OW.out) hb); have BX_ := Aside0.mk (below_step (by repeat (first | (with_reducible first | exact BX.out | apply below_alloc | apply pw_below_drewN | apply below_drew1) | exact BX.out)) hb); have OX_ := Aside0.mk (Kd.R_below (by (with_reducible repeat (first | apply Kd.R_alloc | apply Kd.R_drewN | apply Kd.R_drew)); exact OX.out) hb); have KX_ := Aside0.mk (blk_below (by (with_reducible repeat (first | refine blk_drewN ?_ _ | refine blk_drew ?_ | refine blk_alloc ?_ _)); exact KX.out) hb); clear KB; have KB := KB_; clear KB_; clear OW; have OW := OW_; clear OW_; clear BX; have BX := BX_; clear BX_; clear OX; have OX := OX_; clear OX_; clear KX; have KX := KX_; clear KX_; obtain ⟨AG, cG, hv3⟩ := Kd.S_slice ho; subst hv3; have OG := Aside0.mk (Kd.S_mono (Kd.S_bound ho) (ok' := fun k => w6.heap.size ≤ k) (fun _ h => h.2.1)); clear ho hb
  have yf0 : w7.cell? ⟨gb, 0, none⟩ = some (.int .i64 a0_0) := (blk_cell KB.out 0).trans rfl; have yf1 : w7.cell? ⟨gb, 1, none⟩ = some (.int .i64 a0_1) := (blk_cell KB.out 1).trans rfl; have yf2 : w7.cell? ⟨gb, 2, none⟩ = some (.slice a0_2 l.length cap0_2) := (blk_cell KB.out 2).trans rfl; have xf0 : w7.cell? ⟨gx, 0, none⟩ = some (.int .i64 a0_0) := (blk_cell KX.out 0).trans rfl; have xf1 : w7.cell? ⟨gx, 1, none⟩ = some (.int .i64 a0_1) := (blk_cell KX.out 1).trans rfl; have xf2 : w7.cell? ⟨gx, 2, none⟩ = some (.slice AX l.length cX) := (blk_cell KX.out 2).trans rfl
  go_wp2_with fail
  go_at_call 54; refine (ES.out _ AG cG (Kd.S_V (Kd.S_mono (by (with_reducible repeat (first | apply Kd.S_alloc | apply Kd.S_drewN | apply Kd.S_drew)); exact OG.out) (ok' := fun _ => True) (fun _ _ => trivial))) AW cW (Kd.V_mono (by (with_reducible repeat (first | apply Kd.V_alloc | apply Kd.V_drewN | apply Kd.V_drew)); exact OW.out) (fun _ _ => trivial))).mono ?_; rintro e w8 ⟨rfl, hd⟩; have hb := hd.below; have KB_ := Aside0.mk (blk_below (by (with_reducible repeat (first | refine blk_drewN ?_ _ | refine blk_drew ?_ | refine blk_alloc ?_ _)); exact KB.out) hb); have OW_ := Aside0.mk (Kd.V_below (by (with_reducible repeat (first | apply Kd.V_alloc | apply Kd.V_drewN | apply Kd.V_drew)); exact OW.out) hb); have BX_ := Aside0.mk (below_step (by repeat (first | (with_reducible first | exact BX.out | apply below_alloc | apply pw_below_drewN | apply below_drew1) | exact BX.out)) hb); have OX_ := Aside0.mk (Kd.R_below (by (with_reducible repeat (first | apply Kd.R_alloc | apply Kd.R_drewN | apply Kd.R_drew)); exact OX.out) hb); have KX_ := Aside0.mk (blk_below (by (with_reducible repeat (first | refine blk_drewN ?_ _ | refine blk_drew ?_ | refine blk_alloc ?_ _)); exact KX.out) hb); have OG_ := Aside0.mk (Kd.S_below (by (with_reducible repeat (first | apply Kd.S_alloc | apply Kd.S_drewN | apply Kd.S_drew)); exact OG.out) hb); clear KB; have KB := KB_; clear KB_; clear OW; have OW := OW_; clear OW_; clear BX; have BX := BX_; clear BX_; clear OX; have OX := OX_; clear OX_; clear KX; have KX := KX_; clear KX_; clear OG; have OG := OG_; clear OG_; clear hb hd
  have yg0 : w8.cell? ⟨gb, 0, none⟩ = some (.int .i64 a0_0) := (blk_cell KB.out 0).trans rfl; have yg1 : w8.cell? ⟨gb, 1, none⟩ = some (.int .i64 a0_1) := (blk_cell KB.out 1).trans rfl; have yg2 : w8.cell? ⟨gb, 2, none⟩ = some (.slice a0_2 l.length cap0_2) := (blk_cell KB.out 2).trans rfl; have xg0 : w8.cell? ⟨gx, 0, none⟩ = some (.int .i64 a0_0) := (blk_cell KX.out 0).trans rfl; have xg1 : w8.cell? ⟨gx, 1, none⟩ = some (.int .i64 a0_1) := (blk_cell KX.out 1).trans rfl; have xg2 : w8.cell? ⟨gx, 2, none⟩ = some (.slice AX l.length cX) := (blk_cell KX.out 2).trans rfl
  go_wp2_with fail
  have KB_ := Aside0.mk (blk_drew KB.out); have OW_ := Aside0.mk (Kd.V_drew OW.out); have BX_ := Aside0.mk (below_drew1 BX.out); have OX_ := Aside0.mk (Kd.R_drew OX.out); have KX_ := Aside0.mk (blk_drew KX.out); have OG_ := Aside0.mk (Kd.S_drew OG.out); clear KB; have KB := KB_; clear KB_; clear OW; have OW := OW_; clear OW_; clear BX; have BX := BX_; clear BX_; clear OX; have OX := OX_; clear OX_; clear KX; have KX := KX_; clear KX_; clear OG; have OG := OG_; clear OG_
  refine start_ (n := 5) (S := fun w' => w'.cell? ⟨gx, 0, none⟩ = some (.int .i64 a0_0) ∧ w'.cell? ⟨gx, 1, none⟩ = some (.int .i64 a0_1) ∧ w'.cell? ⟨gx, 2, none⟩ = some (.slice AX l.length cX) ∧ w'.cell? ⟨gb, 0, none⟩ = some (.int .i64 a0_0) ∧ w'.cell? ⟨gb, 1, none⟩ = some (.int .i64 a0_1) ∧ w'.cell? ⟨gb, 2, none⟩ = some (.slice a0_2 l.length cap0_2)) (ds := []) #[false, false, false, false, false] (by kernel_rfl) rfl rfl ⟨(blk_cell KX.out 0).trans rfl, (blk_cell KX.out 1).trans rfl, (blk_cell KX.out 2).trans rfl, (blk_cell KB.out 0).trans rfl, (blk_cell KB.out 1).trans rfl, (blk_cell KB.out 2).trans rfl⟩ (fun hHeld => ?_)
  generalize w8.drew = w9 at KB OW BX OX KX OG hHeld ⊢
  refine take_ (i := 0) (N := some 41) (v := ?_) (a' := ?_) #[true, false, false, false, false] rfl rfl (by kernel_rfl) (fun _ _ _ h => h) (Or.inl ⟨by rfl, ?_⟩) hHeld ?_ ?_
  rotate_left
  · rintro w' ⟨s0, s1, s2, s3, s4, s5⟩
    go_simp
    with_reducible rfl
  rotate_left
  · simp only [Act.put, List.setIfInBounds_toArray, List.set_cons_zero, List.set_cons_succ, i64_w, i32_w]
    rfl
  refine take_ (i := 1) (N := some 42) (v := ?_) (a' := ?_) #[true, true, false, false, false] rfl rfl (by kernel_rfl) (fun _ _ _ h => h) (Or.inl ⟨by rfl, ?_⟩) hHeld ?_ ?_
  rotate_left
  · rintro w' ⟨s0, s1, s2, s3, s4, s5⟩
    go_simp
    with_reducible rfl
  rotate_left
  · simp only [Act.put, List.setIfInBounds_toArray, List.set_cons_zero, List.set_cons_succ, i64_w, i32_w]
    rfl
  refine one_ (i := 2) (N := some 43) #[true, true, true, false, false] rfl rfl (by kernel_rfl) (by decide) (fun K hK => ?_)
  refine goes_ Try.func29 (by kernel_rfl) rfl #[.agg #[.int .i64 a0_0, .int .i64 a0_1, .slice a0_2 l.length cap0_2]] (by rfl) rfl rfl (by (try simp only [List.map_toArray, List.map_cons, List.map_nil]); first | done | rfl | (simp only [List.length_drop, List.length_take]; rfl)) ?_
  refine (TB.out _ (below_step BW4.out BX.out)).mono ?_
  rintro e w10 ⟨v4, rfl, ho, hb⟩; obtain ⟨AY, cY, rfl⟩ := Kd.R_slice ho; refine ⟨_, rfl, ?_⟩; have KB_ := Aside0.mk (blk_below (by (with_reducible repeat (first | refine blk_drewN ?_ _ | refine blk_drew ?_ | refine blk_alloc ?_ _)); exact KB.out) hb); have OW_ := Aside0.mk (Kd.V_below (by (with_reducible repeat (first | apply Kd.V_alloc | apply Kd.V_drewN | apply Kd.V_drew)); exact OW.out) hb); have BX_ := Aside0.mk (below_step (by repeat (first | (with_reducible first | exact BX.out | apply below_alloc | apply pw_below_drewN | apply below_drew1) | exact BX.out)) hb); have OX_ := Aside0.mk (Kd.R_below (by (with_reducible repeat (first | apply Kd.R_alloc | apply Kd.R_drewN | apply Kd.R_drew)); exact OX.out) hb); have KX_ := Aside0.mk (blk_below (by (with_reducible repeat (first | refine blk_drewN ?_ _ | refine blk_drew ?_ | refine blk_alloc ?_ _)); exact KX.out) hb); have OG_ := Aside0.mk (Kd.S_below (by (with_reducible repeat (first | apply Kd.S_alloc | apply Kd.S_drewN | apply Kd.S_drew)); exact OG.out) hb); clear KB; have KB := KB_; clear KB_; clear OW; have OW := OW_; clear OW_; clear BX; have BX := BX_; clear BX_; clear OX; have OX := OX_; clear OX_; clear KX; have KX := KX_; clear KX_; clear OG; have OG := OG_; clear OG_; have OY := Aside0.mk (Kd.R_mono (Kd.R_lower ho (Nat.zero_le _)) (ok' := fun _ => True) (fun _ _ => trivial)); clear ho hb
  refine hK.out _ _ ⟨(blk_cell KX.out 0).trans rfl, (blk_cell KX.out 1).trans rfl, (blk_cell KX.out 2).trans rfl, (blk_cell KB.out 0).trans rfl, (blk_cell KB.out 1).trans rfl, (blk_cell KB.out 2).trans rfl⟩ (fun hHeld => ?_)
  clear hK K
  refine norm_ (a' := ?_) ?_ ?_
  rotate_left
  · show Act.put _ (some 43) _ = _
    simp only [Act.put, List.setIfInBounds_toArray, List.set_cons_zero, List.set_cons_succ, i64_w, i32_w]
    rfl
  refine one_ (i := 3) (N := some 44) #[true, true, true, true, false] rfl rfl (by kernel_rfl) (by decide) (fun K hK => ?_)
  refine goes_ Try.func32 (by kernel_rfl) rfl #[.agg #[.int .i64 a0_0, .int .i64 a0_1, .slice AX l.length cX], .agg #[.int .i64 a0_0, .int .i64 a0_1, .slice AY l.length cY]] (by rfl) rfl rfl (by (try simp only [List.map_toArray, List.map_cons, List.map_nil]); first | done | rfl | (simp only [List.length_drop, List.length_take]; rfl)) ?_
  refine (EB.out _ AX cX (Kd.R_mono (Kd.R_lower (by (with_reducible repeat (first | apply Kd.R_alloc | apply Kd.R_drewN | apply Kd.R_drew)); exact OX.out) (Nat.zero_le _)) (fun _ _ => trivial)) AY cY OY.out).mono ?_
  rintro e w11 ⟨rfl, hb⟩; refine ⟨_, rfl, ?_⟩; have KB_ := Aside0.mk (blk_below (by (with_reducible repeat (first | refine blk_drewN ?_ _ | refine blk_drew ?_ | refine blk_alloc ?_ _)); exact KB.out) hb); have OW_ := Aside0.mk (Kd.V_below (by (with_reducible repeat (first | apply Kd.V_alloc | apply Kd.V_drewN | apply Kd.V_drew)); exact OW.out) hb); have BX_ := Aside0.mk (below_step (by repeat (first | (with_reducible first | exact BX.out | apply below_alloc | apply pw_below_drewN | apply below_drew1) | exact BX.out)) hb); have OX_ := Aside0.mk (Kd.R_below (by (with_reducible repeat (first | apply Kd.R_alloc | apply Kd.R_drewN | apply Kd.R_drew)); exact OX.out) hb); have KX_ := Aside0.mk (blk_below (by (with_reducible repeat (first | refine blk_drewN ?_ _ | refine blk_drew ?_ | refine blk_alloc ?_ _)); exact KX.out) hb); have OG_ := Aside0.mk (Kd.S_below (by (with_reducible repeat (first | apply Kd.S_alloc | apply Kd.S_drewN | apply Kd.S_drew)); exact OG.out) hb); clear KB; have KB := KB_; clear KB_; clear OW; have OW := OW_; clear OW_; clear BX; have BX := BX_; clear BX_; clear OX; have OX := OX_; clear OX_; clear KX; have KX := KX_; clear KX_; clear OG; have OG := OG_; clear OG_; clear hb OY
  refine hK.out _ _ ⟨(blk_cell KX.out 0).trans rfl, (blk_cell KX.out 1).trans rfl, (blk_cell KX.out 2).trans rfl, (blk_cell KB.out 0).trans rfl, (blk_cell KB.out 1).trans rfl, (blk_cell KB.out 2).trans rfl⟩ (fun hHeld => ?_)
  clear hK K
  refine norm_ (a' := ?_) ?_ ?_
  rotate_left
  · show Act.put _ (some 44) _ = _
    simp only [Act.put, List.setIfInBounds_toArray, List.set_cons_zero, List.set_cons_succ, i64_w, i32_w]
    rfl
  refine pure_ (i := 4) (N := some 45) (v := ?_) (a' := ?_) #[true, true, true, true, true] rfl rfl (by kernel_rfl) (fun _ _ _ h => h) (Or.inl ⟨by rfl, ?_⟩) ?_ ?_
  rotate_left
  · intro w'
    go_simp
    with_reducible rfl
  rotate_left
  · simp only [Act.put, List.setIfInBounds_toArray, List.set_cons_zero, List.set_cons_succ, i64_w, i32_w]
    rfl
  refine done_ (by kernel_rfl) ?_
  have yh0 : w11.cell? ⟨gb, 0, none⟩ = some (.int .i64 a0_0) := (blk_cell KB.out 0).trans rfl; have yh1 : w11.cell? ⟨gb, 1, none⟩ = some (.int .i64 a0_1) := (blk_cell KB.out 1).trans rfl; have yh2 : w11.cell? ⟨gb, 2, none⟩ = some (.slice a0_2 l.length cap0_2) := (blk_cell KB.out 2).trans rfl; have xh0 : w11.cell? ⟨gx, 0, none⟩ = some (.int .i64 a0_0) := (blk_cell KX.out 0).trans rfl; have xh1 : w11.cell? ⟨gx, 1, none⟩ = some (.int .i64 a0_1) := (blk_cell KX.out 1).trans rfl; have xh2 : w11.cell? ⟨gx, 2, none⟩ = some (.slice AX l.length cX) := (blk_cell KX.out 2).trans rfl
  go_wp2_with fail
  go_at_call 33; refine (MB.out _ w4 (by repeat (first | (with_reducible first | exact BX.out | apply below_alloc | apply pw_below_drewN | apply below_drew1) | exact BX.out)) (.slice AX l.length cX) (Kd.R_tight rfl (by (with_reducible repeat (first | apply Kd.R_alloc | apply Kd.R_drewN | apply Kd.R_drew)); exact OX.out))).mono ?_; rintro e w12 ⟨rfl, _, hb, hk⟩; have OW_ := Aside0.mk (Kd.V_kept (by (with_reducible repeat (first | apply Kd.V_alloc | apply Kd.V_drewN | apply Kd.V_drew)); exact OW.out) hk (fun k h1 h2 => absurd (OX.out.1 k h2.symm).1 (by omega))); have OG_ := Aside0.mk (Kd.S_kept (by (with_reducible repeat (first | apply Kd.S_alloc | apply Kd.S_drewN | apply Kd.S_drew)); exact OG.out) hk (fun k h1 h2 => absurd (OX.out.1 k h2.symm).2 (by have := L5.out; have := L6.out; omega))); have KB_ := Aside0.mk (blk_kept (by (with_reducible repeat (first | refine blk_drewN ?_ _ | refine blk_drew ?_ | refine blk_alloc ?_ _)); exact KB.out) hk (fun h2 => absurd (OX.out.1 gb h2.symm).1 (by have := G4.out; omega))); clear OW OG KB BX OX KX; have OW := OW_; have OG := OG_; have KB := KB_; have BX := Aside0.mk hb; clear OW_ OG_ KB_ hb hk
  have yi0 : w12.cell? ⟨gb, 0, none⟩ = some (.int .i64 a0_0) := (blk_cell KB.out 0).trans rfl; have yi1 : w12.cell? ⟨gb, 1, none⟩ = some (.int .i64 a0_1) := (blk_cell KB.out 1).trans rfl; have yi2 : w12.cell? ⟨gb, 2, none⟩ = some (.slice a0_2 l.length cap0_2) := (blk_cell KB.out 2).trans rfl
  go_wp2_with fail
  go_at_call 54; refine (ES.out _ AG cG (Kd.S_V (Kd.S_mono (by (with_reducible repeat (first | apply Kd.S_alloc | apply Kd.S_drewN | apply Kd.S_drew)); exact OG.out) (ok' := fun _ => True) (fun _ _ => trivial))) AW cW (Kd.V_mono (by (with_reducible repeat (first | apply Kd.V_alloc | apply Kd.V_drewN | apply Kd.V_drew)); exact OW.out) (fun _ _ => trivial))).mono ?_; rintro e w13 ⟨rfl, hd⟩; have hb := hd.below; have KB_ := Aside0.mk (blk_below (by (with_reducible repeat (first | refine blk_drewN ?_ _ | refine blk_drew ?_ | refine blk_alloc ?_ _)); exact KB.out) hb); have OW_ := Aside0.mk (Kd.V_below (by (with_reducible repeat (first | apply Kd.V_alloc | apply Kd.V_drewN | apply Kd.V_drew)); exact OW.out) hb); have BX_ := Aside0.mk (below_step (by repeat (first | (with_reducible first | exact BX.out | apply below_alloc | apply pw_below_drewN | apply below_drew1) | exact BX.out)) hb); have OG_ := Aside0.mk (Kd.S_below (by (with_reducible repeat (first | apply Kd.S_alloc | apply Kd.S_drewN | apply Kd.S_drew)); exact OG.out) hb); clear KB; have KB := KB_; clear KB_; clear OW; have OW := OW_; clear OW_; clear BX; have BX := BX_; clear BX_; clear OG; have OG := OG_; clear OG_; clear hb hd
  have yj0 : w13.cell? ⟨gb, 0, none⟩ = some (.int .i64 a0_0) := (blk_cell KB.out 0).trans rfl; have yj1 : w13.cell? ⟨gb, 1, none⟩ = some (.int .i64 a0_1) := (blk_cell KB.out 1).trans rfl; have yj2 : w13.cell? ⟨gb, 2, none⟩ = some (.slice a0_2 l.length cap0_2) := (blk_cell KB.out 2).trans rfl
  go_wp2_with fail
  go_at_call 55; refine (MS.out _ w4 w6.heap.size (fun k => w6.heap.size ≤ k) (.slice AG rows.length cG) (by (with_reducible repeat (first | apply Kd.S_alloc | apply Kd.S_drewN | apply Kd.S_drew)); exact OG.out) (by have := L5.out; have := L6.out; have := G56.out; omega) (by repeat (first | (with_reducible first | exact BX.out | apply below_alloc | apply pw_below_drewN | apply below_drew1) | exact BX.out))).mono ?_; rintro e w14 ⟨rfl, ho, hb, hk⟩; have OW_ := Aside0.mk (Kd.V_kept (by (with_reducible repeat (first | apply Kd.V_alloc | apply Kd.V_drewN | apply Kd.V_drew)); exact OW.out) hk (fun k h1 h2 => absurd (show w6.heap.size ≤ k from h2) (by have := L5.out; have := L6.out; have := G56.out; omega))); have KB_ := Aside0.mk (blk_kept (by (with_reducible repeat (first | refine blk_drewN ?_ _ | refine blk_drew ?_ | refine blk_alloc ?_ _)); exact KB.out) hk (fun h2 => absurd (show w6.heap.size ≤ gb from h2) (by have := G4.out; have := L5.out; have := L6.out; have := G56.out; omega))); clear OW OG KB BX; have OW := OW_; have KB := KB_; have OG := Aside0.mk ho; have BX := Aside0.mk hb; clear OW_ KB_ ho hb hk
  have yk0 : w14.cell? ⟨gb, 0, none⟩ = some (.int .i64 a0_0) := (blk_cell KB.out 0).trans rfl; have yk1 : w14.cell? ⟨gb, 1, none⟩ = some (.int .i64 a0_1) := (blk_cell KB.out 1).trans rfl; have yk2 : w14.cell? ⟨gb, 2, none⟩ = some (.slice a0_2 l.length cap0_2) := (blk_cell KB.out 2).trans rfl
  go_wp2_with fail
  go_at_call 56; refine (HD.out _ AG cG (Kd.S_V (Kd.S_mono (by (with_reducible repeat (first | apply Kd.S_alloc | apply Kd.S_drewN | apply Kd.S_drew)); exact OG.out) (ok' := fun _ => True) (fun _ _ => trivial)))).mono ?_; rintro e w15 ⟨rfl, hd⟩; have hb := hd.below; have KB_ := Aside0.mk (blk_below (by (with_reducible repeat (first | refine blk_drewN ?_ _ | refine blk_drew ?_ | refine blk_alloc ?_ _)); exact KB.out) hb); have OW_ := Aside0.mk (Kd.V_below (by (with_reducible repeat (first | apply Kd.V_alloc | apply Kd.V_drewN | apply Kd.V_drew)); exact OW.out) hb); have BX_ := Aside0.mk (below_step (by repeat (first | (with_reducible first | exact BX.out | apply below_alloc | apply pw_below_drewN | apply below_drew1) | exact BX.out)) hb); have OG_ := Aside0.mk (Kd.S_below (by (with_reducible repeat (first | apply Kd.S_alloc | apply Kd.S_drewN | apply Kd.S_drew)); exact OG.out) hb); clear KB; have KB := KB_; clear KB_; clear OW; have OW := OW_; clear OW_; clear BX; have BX := BX_; clear BX_; clear OG; have OG := OG_; clear OG_; clear hb hd
  have yl0 : w15.cell? ⟨gb, 0, none⟩ = some (.int .i64 a0_0) := (blk_cell KB.out 0).trans rfl; have yl1 : w15.cell? ⟨gb, 1, none⟩ = some (.int .i64 a0_1) := (blk_cell KB.out 1).trans rfl; have yl2 : w15.cell? ⟨gb, 2, none⟩ = some (.slice a0_2 l.length cap0_2) := (blk_cell KB.out 2).trans rfl
  go_wp2_with fail
  go_at_call 29; refine (TB.out _ (below_step BW4.out (by repeat (first | (with_reducible first | exact BX.out | apply below_alloc | apply pw_below_drewN | apply below_drew1) | exact BX.out)))).mono ?_; rintro e w16 ⟨v5, rfl, ho, hb⟩; obtain ⟨AZ, cZ, rfl⟩ := Kd.R_slice ho; have KB_ := Aside0.mk (blk_below (by (with_reducible repeat (first | refine blk_drewN ?_ _ | refine blk_drew ?_ | refine blk_alloc ?_ _)); exact KB.out) hb); have OW_ := Aside0.mk (Kd.V_below (by (with_reducible repeat (first | apply Kd.V_alloc | apply Kd.V_drewN | apply Kd.V_drew)); exact OW.out) hb); have BX_ := Aside0.mk (below_step (by repeat (first | (with_reducible first | exact BX.out | apply below_alloc | apply pw_below_drewN | apply below_drew1) | exact BX.out)) hb); have OG_ := Aside0.mk (Kd.S_below (by (with_reducible repeat (first | apply Kd.S_alloc | apply Kd.S_drewN | apply Kd.S_drew)); exact OG.out) hb); clear KB; have KB := KB_; clear KB_; clear OW; have OW := OW_; clear OW_; clear BX; have BX := BX_; clear BX_; clear OG; have OG := OG_; clear OG_; have OY := Aside0.mk (Kd.R_mono (Kd.R_lower ho (Nat.zero_le _)) (ok' := fun _ => True) (fun _ _ => trivial)); clear ho hb
  have ym0 : w16.cell? ⟨gb, 0, none⟩ = some (.int .i64 a0_0) := (blk_cell KB.out 0).trans rfl; have ym1 : w16.cell? ⟨gb, 1, none⟩ = some (.int .i64 a0_1) := (blk_cell KB.out 1).trans rfl; have ym2 : w16.cell? ⟨gb, 2, none⟩ = some (.slice a0_2 l.length cap0_2) := (blk_cell KB.out 2).trans rfl
  go_wp2_with fail
  go_at_call 53; refine (IM.out _ AZ cZ (by (with_reducible repeat (first | apply Kd.R_alloc | apply Kd.R_drewN | apply Kd.R_drew)); exact OY.out)).mono ?_; rintro e w17 ⟨v6, rfl, ho, hb⟩; have KB_ := Aside0.mk (blk_below (by (with_reducible repeat (first | refine blk_drewN ?_ _ | refine blk_drew ?_ | refine blk_alloc ?_ _)); exact KB.out) hb); have OW_ := Aside0.mk (Kd.V_below (by (with_reducible repeat (first | apply Kd.V_alloc | apply Kd.V_drewN | apply Kd.V_drew)); exact OW.out) hb); have BX_ := Aside0.mk (below_step (by repeat (first | (with_reducible first | exact BX.out | apply below_alloc | apply pw_below_drewN | apply below_drew1) | exact BX.out)) hb); have OG_ := Aside0.mk (Kd.S_below (by (with_reducible repeat (first | apply Kd.S_alloc | apply Kd.S_drewN | apply Kd.S_drew)); exact OG.out) hb); clear KB; have KB := KB_; clear KB_; clear OW; have OW := OW_; clear OW_; clear BX; have BX := BX_; clear BX_; clear OG; have OG := OG_; clear OG_; obtain ⟨AH, cH, hv6⟩ := Kd.S_slice ho; subst hv6; have OH := Aside0.mk (Kd.S_mono ho (ok' := fun _ => True) (fun _ _ => trivial)); clear ho hb OY
  have yn0 : w17.cell? ⟨gb, 0, none⟩ = some (.int .i64 a0_0) := (blk_cell KB.out 0).trans rfl; have yn1 : w17.cell? ⟨gb, 1, none⟩ = some (.int .i64 a0_1) := (blk_cell KB.out 1).trans rfl; have yn2 : w17.cell? ⟨gb, 2, none⟩ = some (.slice a0_2 l.length cap0_2) := (blk_cell KB.out 2).trans rfl
  go_wp2_with fail
  go_at_call 54; refine (ES.out _ AH cH (Kd.S_V (Kd.S_mono (by (with_reducible repeat (first | apply Kd.S_alloc | apply Kd.S_drewN | apply Kd.S_drew)); exact OH.out) (ok' := fun _ => True) (fun _ _ => trivial))) AW cW (Kd.V_mono (by (with_reducible repeat (first | apply Kd.V_alloc | apply Kd.V_drewN | apply Kd.V_drew)); exact OW.out) (fun _ _ => trivial))).mono ?_; rintro e w18 ⟨rfl, hd⟩; have hb := hd.below; have KB_ := Aside0.mk (blk_below (by (with_reducible repeat (first | refine blk_drewN ?_ _ | refine blk_drew ?_ | refine blk_alloc ?_ _)); exact KB.out) hb); have OW_ := Aside0.mk (Kd.V_below (by (with_reducible repeat (first | apply Kd.V_alloc | apply Kd.V_drewN | apply Kd.V_drew)); exact OW.out) hb); have BX_ := Aside0.mk (below_step (by repeat (first | (with_reducible first | exact BX.out | apply below_alloc | apply pw_below_drewN | apply below_drew1) | exact BX.out)) hb); have OG_ := Aside0.mk (Kd.S_below (by (with_reducible repeat (first | apply Kd.S_alloc | apply Kd.S_drewN | apply Kd.S_drew)); exact OG.out) hb); have OH_ := Aside0.mk (Kd.S_below (by (with_reducible repeat (first | apply Kd.S_alloc | apply Kd.S_drewN | apply Kd.S_drew)); exact OH.out) hb); clear KB; have KB := KB_; clear KB_; clear OW; have OW := OW_; clear OW_; clear BX; have BX := BX_; clear BX_; clear OG; have OG := OG_; clear OG_; clear OH; have OH := OH_; clear OH_; clear hb hd
  go_wp2_with fail
  go_at_call 56; refine (HD.out _ AG cG (Kd.S_V (Kd.S_mono (by (with_reducible repeat (first | apply Kd.S_alloc | apply Kd.S_drewN | apply Kd.S_drew)); exact OG.out) (ok' := fun _ => True) (fun _ _ => trivial)))).mono ?_; rintro e w19 ⟨rfl, hd⟩; have hb := hd.below; have KB_ := Aside0.mk (blk_below (by (with_reducible repeat (first | refine blk_drewN ?_ _ | refine blk_drew ?_ | refine blk_alloc ?_ _)); exact KB.out) hb); have OW_ := Aside0.mk (Kd.V_below (by (with_reducible repeat (first | apply Kd.V_alloc | apply Kd.V_drewN | apply Kd.V_drew)); exact OW.out) hb); have BX_ := Aside0.mk (below_step (by repeat (first | (with_reducible first | exact BX.out | apply below_alloc | apply pw_below_drewN | apply below_drew1) | exact BX.out)) hb); have OG_ := Aside0.mk (Kd.S_below (by (with_reducible repeat (first | apply Kd.S_alloc | apply Kd.S_drewN | apply Kd.S_drew)); exact OG.out) hb); have OH_ := Aside0.mk (Kd.S_below (by (with_reducible repeat (first | apply Kd.S_alloc | apply Kd.S_drewN | apply Kd.S_drew)); exact OH.out) hb); clear KB; have KB := KB_; clear KB_; clear OW; have OW := OW_; clear OW_; clear BX; have BX := BX_; clear BX_; clear OG; have OG := OG_; clear OG_; clear OH; have OH := OH_; clear OH_; clear hb hd
  go_wp2_with fail
  go_ret
  exact ⟨by first | rfl | simp, below_step BW4.out (by repeat (first | (with_reducible first | exact BX.out | apply below_alloc | apply pw_below_drewN | apply below_drew1) | exact BX.out))⟩
end Go.Proofs.Ytgnmcfoenmfhcaa.Q
end
