/- Texts of this claim put together (12): words, what the functions compute, and plain facts. No conditions. -/
import Derived.Test.YtgnmcfoenmfhcaaSFnRefusingRows6
import Derived.Sort.Grow
import Derived.Maps.AppendAt
import Derived.Outline
import Derived.Lib.Hide
import Derived.Test.YtgnmcfoenmfhcaaProg
import Derived.Shelf.SlSortCmp.NoneTotal
import Derived.Test.YtgnmcfoenmfhcaaSFnRefusingRows8
import Derived.Lib.SortBridge
import Derived.Test.YtgnmcfoenmfhcaaSFnRefusingRows4
import Derived.Test.YtgnmcfoenmfhcaaSFnRefusingRows7
import Derived.Test.YtgnmcfoenmfhcaaSFnRefusingRows0
section
namespace Go.Proofs.Ytgnmcfoenmfhcaa.GrowK
set_option linter.unusedVariables false
open Go Go.RowKit Go.Sort Go.Proofs.YtgnmcfoenmfhcaaW.PrintWords Go.Proofs.YtgnmcfoenmfhcaaW.PrintLast Go.Proofs.YtgnmcfoenmfhcaaW.PrintMore
structure BelD (w w' : World) : Prop where
  below : Below w.heap.size w w'
  drawn : w.drawn ≤ w'.drawn
theorem BelD.refl (w : World) : BelD w w := ⟨Below.refl _ _, Nat.le_refl _⟩
theorem BelD.trans {a b c : World} (h : BelD a b) (k : BelD b c) : BelD a c := ⟨h.below.trans (k.below.mono h.below.size), Nat.le_trans h.drawn k.drawn⟩
theorem BelD.drewN {a b : World} (h : BelD a b) (n : Nat) : BelD a (b.drewN n) := ⟨pw_below_drewN h.below n, Nat.le_trans h.drawn (by show b.drawn ≤ b.drawn + n; omega)⟩
theorem BelD.drew {a b : World} (h : BelD a b) : BelD a b.drew := ⟨below_drew1 h.below, Nat.le_trans h.drawn (by show b.drawn ≤ b.drawn + 1; omega)⟩
theorem BelD.alloc {a b : World} (h : BelD a b) (o : Obj) : BelD a (b.alloc o) := ⟨below_alloc h.below o, h.drawn⟩
theorem BelD.grown {w w' : World} (h : BelD w w') : ∃ q os, w' = grow (w.drewN q) os := by
  refine ⟨w'.drawn - w.drawn, w'.heap.extract w.heap.size w'.heap.size, ?_⟩
  obtain ⟨⟨h1, h2, h3, h4, h5⟩, h6⟩ := h
  have hh : w'.heap = w.heap ++ w'.heap.extract w.heap.size w'.heap.size := by
    apply Array.ext
    · simp; omega
    · intro i hi1 hi2
      by_cases hi : i < w.heap.size
      · have := h5 i hi
        rw [Array.getElem?_eq_getElem hi1, Array.getElem?_eq_getElem hi] at this
        rw [Array.getElem_append_left hi]
        exact Option.some.inj this
      · rw [Array.getElem_append_right (by omega), Array.getElem_extract]
        congr 1
        omega
  have hd : w.drawn + (w'.drawn - w.drawn) = w'.drawn := by omega
  cases w with
  | mk hp tp dr os ot =>
    cases w' with
    | mk hp' tp' dr' os' ot' =>
      simp only at h1 h2 h3 hh hd
      subst h1 h2 h3
      unfold grow World.drewN
      simp only [hd, ← hh]
section
variable {P : Program} (w : World)
theorem append_drawn (base : Nat) (t ty e : TypeId) (i : TypeInfo) (z : Value) (size bytes : Nat) (ht : P.underlying t = some (.slice e)) (hi : P.info? e = some i) (hz : i.zero = some z)
    (hsize : i.size = size) (hby : i.bytes = bytes) (hzs : z.cells.size = size) (hsz : 0 < size)
    (v : Value) (n : Nat) (xs : List Value) (hown : w.ownsRow base e size v n xs)
    (a : Addr) (c : Nat) (news : List Value) (hl : news.length = 1 * size) (hnews : ∀ j u, news[j]? = some u → w.cell? (a.add j) = some u) (h1 : ∀ u ∈ news, u.oneCell' = true)
    (hbytes : (n + 1) * bytes ≤ 140737488355328) (h63 : n + 1 ≤ 140737488355328) {v' : Value} {w' : World} (h : (Builtin.append_ #[t, t] ty #[v, .slice (some a) 1 c]).run P w = .ok v' w') : w.drawn ≤ w'.drawn := by
  subst hsize
  subst hby
  have hlen : (xs ++ news).length = (n + 1) * i.size := by rw [List.length_append, hown.1, hl, Nat.add_mul]
  rcases hown.2 with ⟨rfl, rfl⟩ | ⟨g, cap, cur, rfl, hbg, hg, hnc, hcm, hcs, htake⟩
  · have hr := run_append_nil (P := P) w t ty e i z ht hi hz a 1 c news hl hnews (by omega) (by omega) (by have hb := hbytes; simp only [Nat.zero_add] at hb; omega)
    rw [hr] at h
    injection h with _ h2
    subst h2
    show w.drawn ≤ w.drawn + 1
    omega
  · by_cases hroom : n + 1 ≤ cap
    · have hfit : n * i.size + news.length ≤ cur.size := by rw [hl, hcs, ← Nat.add_mul]; exact Nat.mul_le_mul_right _ hroom
      have hr := run_append_room (P := P) w t ty e i ht hi g n cap cur hg a 1 c news hl hnews h1 hroom hfit
      rw [hr] at h
      injection h with _ h2
      subst h2
      exact Nat.le_refl _
    · have holds : ∀ j u, xs[j]? = some u → w.cell? ((⟨g, 0, none⟩ : Addr).add j) = some u := hown.cells (g := g) rfl
      have hr := run_append_grow (P := P) w t ty e i z ht hi hz ⟨g, 0, none⟩ n cap xs hown.1 holds a 1 c news hl hnews (by omega) (by omega) (growslice_fits (by omega) hbytes)
      rw [hr] at h
      injection h with _ h2
      subst h2
      show w.drawn ≤ w.drawn + 1
      omega
end
section
variable {P : Program} {ops : Array Oper} {rest : List Oper} {o : Oper} {a : Act} {Q : Exit → Act → World → Prop} {α : Type}
theorem R_append_d (d : Kd α) {w0 W : World} (base : Nat) (hgd : o.guard = none) (s x : Operand) (t e : TypeId) (z : Value) (bytes : Nat)
    (ho : o.op = .call { callee := .builtin .append, args := #[s, x], argTypes := #[t, t] })
    (ht : P.underlying t = some (.slice e)) (hinfo : (P.info? e).map (fun i => (i.zero, i.size, i.bytes)) = some (some z, d.sz, bytes)) (hz : z.cells.size = d.sz) (hs0 : 0 < d.sz) (hb0 : 0 < bytes)
    (v : Value) (xs : List α) (p : α) (cs : List Value) (ok okp : Nat → Prop) (hs : a.eval s = v) (hx : a.eval x = .slice (some ⟨W.heap.size, 0, none⟩) 1 1) (hp : d.M W base okp p cs) (hokp : ∀ k, okp k → ok k ∧ some k ≠ v.ownBlock) (hfresh : ∀ k, W.heap.size ≤ k → ok k)
    (HO : d.R e W base ok v xs) (HB : BelD w0 W) (hbase : base ≤ W.heap.size) (hb2 : w0.heap.size ≤ base) (hl : (xs.length + 1) * bytes ≤ 140737488355328)
    (h : ∀ v1 w1, d.R e w1 base ok v1 (xs ++ [p]) → BelD w0 w1 → wpList P ops Q rest (a.put o.dst v1) w1) :
    wpList P ops Q (o :: rest) a (W.alloc (.cells cs.toArray e)) := by
  obtain ⟨h0, inner, hown, hr⟩ := HO
  obtain ⟨i0, hi, hzz⟩ := Option.map_eq_some_iff.1 hinfo
  simp only [Prod.mk.injEq] at hzz
  obtain ⟨hz0, hz1, hz2⟩ := hzz
  have hlen : xs.length + 1 ≤ 140737488355328 := Nat.le_trans (Nat.le_mul_of_pos_right _ hb0) hl
  have hys := d.K_len (d.K_of_M hp)
  have h1 := d.K_one (d.K_of_M hp)
  have hnews : ∀ j u, cs[j]? = some u → (W.alloc (.cells cs.toArray e)).cell? ((⟨W.heap.size, 0, none⟩ : Addr).add j) = some u := by simpa using World.news_of_block (cs := cs.toArray) (t := e) (fr := (0, 0)) (heap_alloc_new W (.cells cs.toArray e))
  refine wpList_plain hgd fun K hK => ?_
  obtain ⟨v1, w1, hrun, hown1, hg, _, hat⟩ := run_append_own_at (P := P) (W.alloc (.cells cs.toArray e)) base t o.type e i0 z d.sz bytes ht hi hz0 hz1 hz2 hz hs0 v xs.length inner (hown.alloc _) ⟨W.heap.size, 0, none⟩ 1 1 cs (by rw [hys]; simp) hnews h1 (by simp only [maxLen]; omega) hl (by simp; omega)
  have hd := append_drawn (P := P) (W.alloc (.cells cs.toArray e)) base t o.type e i0 z d.sz bytes ht hi hz0 hz1 hz2 hz hs0 v xs.length inner (hown.alloc _) ⟨W.heap.size, 0, none⟩ 1 cs (by rw [hys]; simp) hnews h1 hl hlen hrun
  unfold Oper.wp execOp
  simp only [ho, resolve, invoke, builtin, Sem.run_bind, Sem.run_pure, Result.andThen_ok, List.map_toArray, List.map_cons, List.map_nil, hs, hx, hrun]
  have hat2 : v1.ownBlock = v.ownBlock ∨ ∃ b, v1.ownBlock = some b ∧ W.heap.size ≤ b := by
    rcases hat with hat | hat
    · exact .inl hat
    · exact .inr ⟨_, hat, by simp⟩
  have hg2 := World.grownBy.trans (World.grownBy_alloc W _ _) hg
  refine hK _ _ (h v1 w1 (Kd.R_appended h0 hr hp hokp hfresh hown1 hg2 hat2) ⟨?_, Nat.le_trans HB.drawn hd⟩)
  exact (below_alloc HB.below _).grown hg (by have := HB.below.size; simp; omega) (fun k hk => Nat.le_trans hb2 (own_base hown k hk))
theorem R_lit_d (d : Kd α) {W : World} (e : Nat) (hgd : o.guard = none) {N : Tmp} (_hd : o.dst = some N) {xs : List α} {inner : List Value} {ok okp : Nat → Prop}
    (hrun : (execOp a.eval o).run P W = .ok (.value (.slice (some ⟨W.heap.size, 0, none⟩) xs.length xs.length)) (W.alloc (.cells inner.toArray e)))
    (hrep : Reps (d.M W W.heap.size okp) d.sz xs inner) (hok : ∀ k, okp k → ok k) (hfresh : ok W.heap.size) (hm : xs.length ≤ 9223372036854775807)
    (h : ∀ v1 w1, d.R e w1 W.heap.size ok v1 xs → BelD W w1 → wpList P ops Q rest (a.put o.dst v1) w1) : wpList P ops Q (o :: rest) a W := by
  refine Kd.event_run hgd hrun (h _ _ ⟨fun k hk => ?_, inner, ?_, ?_⟩ ((BelD.refl W).alloc _))
  · have : W.heap.size = k := by simpa [Value.ownBlock] using hk
    subst this
    exact hfresh
  · have h2 := World.ownsRow_lit (base := W.heap.size) (e := e) (size := d.sz) W inner.toArray xs.length (Nat.le_refl _) (by simpa [maxLen] using hm) (by simpa using hrep.1)
    simpa using h2
  · refine hrep.imp_ (fun p c hp => d.M_mono (fun k hk => ⟨hok k hk.1, fun he => ?_⟩) (Kd.M_below (d.M_bound hp) (below_alloc (Below.refl _ _) _)))
    have h3 : k = W.heap.size := by simpa [Value.ownBlock] using he
    have := hk.2.2.1
    omega
end
end Go.Proofs.Ytgnmcfoenmfhcaa.GrowK
end
section
namespace Go.Proofs.Ytgnmcfoenmfhcaa.Lay
open Go.Shelf Go.Proofs
def sortI_ren : Go.Shelf.Ren := ⟨fun | 6 => 116 | 15 => 138 | 14 => 137 | 28 => 157 | 29 => 158 | 20 => 149 | 21 => 150 | 22 => 151 | 23 => 152 | 24 => 153 | 25 => 154 | 26 => 155 | 27 => 156 | 46 => 169 | 47 => 170 | 48 => 171 | 49 => 172 | 50 => 173 | 57 => 177 | n => n, fun | 22 => 24 | 24 => 3 | 25 => 80 | 3 => 3 | 39 => 109 | 0 => 0 | 53 => 118 | 55 => 84 | 4 => 4 | 46 => 124 | 45 => 123 | 50 => 30 | 5 => 5 | 9 => 9 | 66 => 135 | 70 => 139 | 76 => 143 | 77 => 144 | n => n, fun | n => n⟩
theorem sortI : Go.Proofs.SlLaysF.n6 Try.prog sortI_ren := {
  mixed := by kernel_rfl,
  f6 := ⟨Try.f116.name, by decide, Try.func116.trans (congrArg some (by kernel_rfl))⟩,
  f14 := ⟨Try.f137.name, by decide, Try.func137.trans (congrArg some (by kernel_rfl))⟩,
  f15 := Try.func138.trans (congrArg some (by kernel_rfl)),
  f20 := ⟨Try.f149.name, by decide, Try.func149.trans (congrArg some (by kernel_rfl))⟩,
  f21 := ⟨Try.f150.name, by decide, Try.func150.trans (congrArg some (by kernel_rfl))⟩,
  f22 := ⟨Try.f151.name, by decide, Try.func151.trans (congrArg some (by kernel_rfl))⟩,
  f23 := ⟨Try.f152.name, by decide, Try.func152.trans (congrArg some (by kernel_rfl))⟩,
  f24 := ⟨Try.f153.name, by decide, Try.func153.trans (congrArg some (by kernel_rfl))⟩,
  f25 := ⟨Try.f154.name, by decide, Try.func154.trans (congrArg some (by kernel_rfl))⟩,
  f26 := ⟨Try.f155.name, by decide, Try.func155.trans (congrArg some (by kernel_rfl))⟩,
  f27 := ⟨Try.f156.name, by decide, Try.func156.trans (congrArg some (by kernel_rfl))⟩,
  f28 := Try.func157.trans (congrArg some (by kernel_rfl)),
  f29 := Try.func158.trans (congrArg some (by kernel_rfl)),
  f46 := ⟨Try.f169.name, by decide, Try.func169.trans (congrArg some (by kernel_rfl))⟩,
  f47 := Try.func170.trans (congrArg some (by kernel_rfl)),
  f48 := Try.func171.trans (congrArg some (by kernel_rfl)),
  f49 := ⟨Try.f172.name, by decide, Try.func172.trans (congrArg some (by kernel_rfl))⟩,
  f50 := ⟨Try.f173.name, by decide, Try.func173.trans (congrArg some (by kernel_rfl))⟩,
  f57 := ⟨Try.f177.name, by decide, Try.func177.trans (congrArg some (by kernel_rfl))⟩,
  t0 := Try.underlying0,
  a0 := Try.isAgg0,
  z0 := Try.sizeOf0,
  v0 := Try.zeroValue0,
  t3 := Try.underlying3,
  a3 := Try.isAgg3,
  z3 := Try.sizeOf3,
  v3 := Try.zeroValue3,
  t4 := Try.underlying4,
  a4 := Try.isAgg4,
  z4 := Try.sizeOf4,
  v4 := Try.zeroValue4,
  t5 := Try.underlying5,
  a5 := Try.isAgg5,
  z5 := Try.sizeOf5,
  v5 := Try.zeroValue5,
  t9 := Try.underlying9,
  a9 := Try.isAgg9,
  z9 := Try.sizeOf9,
  v9 := Try.zeroValue9,
  t22 := Try.underlying24,
  a22 := Try.isAgg24,
  z22 := Try.sizeOf24,
  v22 := Try.zeroValue24,
  a24 := Try.isAgg3,
  z24 := Try.sizeOf3,
  t25 := Try.underlying80,
  a25 := Try.isAgg80,
  z25 := Try.sizeOf80,
  v25 := Try.zeroValue80,
  t39 := Try.underlying109,
  a39 := Try.isAgg109,
  z39 := Try.sizeOf109,
  v39 := Try.zeroValue109,
  t45 := Try.underlying123,
  a45 := Try.isAgg123,
  z45 := Try.sizeOf123,
  v45 := Try.zeroValue123,
  t46 := Try.underlying124,
  a46 := Try.isAgg124,
  z46 := Try.sizeOf124,
  v46 := Try.zeroValue124,
  t50 := Try.underlying30,
  a50 := Try.isAgg30,
  z50 := Try.sizeOf30,
  v50 := Try.zeroValue30,
  t53 := Try.underlying118,
  a53 := Try.isAgg118,
  z53 := Try.sizeOf118,
  v53 := Try.zeroValue118,
  t55 := Try.underlying84,
  a55 := Try.isAgg84,
  z55 := Try.sizeOf84,
  v55 := Try.zeroValue84,
  t66 := Try.underlying135,
  a66 := Try.isAgg135,
  z66 := Try.sizeOf135,
  v66 := Try.zeroValue135,
  t70 := Try.underlying139,
  a70 := Try.isAgg139,
  z70 := Try.sizeOf139,
  v70 := Try.zeroValue139,
  t76 := Try.underlying143,
  a76 := Try.isAgg143,
  z76 := Try.sizeOf143,
  v76 := Try.zeroValue143,
  t77 := Try.underlying144,
  a77 := Try.isAgg144,
  z77 := Try.sizeOf144,
  v77 := Try.zeroValue144 }
end Go.Proofs.Ytgnmcfoenmfhcaa.Lay
end
section
namespace Go.Proofs.Ytgnmcfoenmfhcaa.SortM
set_option linter.unusedVariables false
open Go Go.Shelf Go.RowKit Go.Lib Go.Sort Go.Proofs Go.Proofs.Ytgnmcfoenmfhcaa.Q Go.Proofs.YtgnmcfoenmfhcaaW.PrintWords Go.Proofs.YtgnmcfoenmfhcaaW.PrintLast Go.Proofs.YtgnmcfoenmfhcaaW.PrintMore
open Go.Proofs.YtgnmcfoenmfhcaaL Go.Proofs.Ytgnmcfoenmfhcaa.LawK Go.Proofs.Ytgnmcfoenmfhcaa.BoardK Go.Proofs.Ytgnmcfoenmfhcaa.LinesK Go.Proofs.Ytgnmcfoenmfhcaa.GrowK
def fullM : List Nat := [0, 1, 2, 4, 8, 16, 32, 3, 5, 9, 17, 33, 6, 10, 18, 34, 12, 20, 36, 24, 40, 48, 7, 11, 19, 35, 13, 21, 37, 25, 41, 49, 14, 22, 38, 26, 42, 50, 28, 44, 52, 56, 15, 23, 39, 27, 43, 51, 29, 45, 53, 57, 30, 46, 54, 58, 60, 31, 47, 55, 59, 61, 62, 63]
def rankM (m : Nat) : Nat := fullM.idxOf m
def cmpM (x y : Nat) : Int := if (listM x).length = (listM y).length then (slices_Compare_int_int.f 20 (listM x) (listM y)).getD 0 else ((listM x).length : Int) - (listM y).length
theorem count_all : ∀ m : Fin 64, impl_count.f (m.val : Int) = some ((listM m.val).length : Int) := by decide +kernel
theorem compare_all : ∀ x y : Fin 64, (listM x.val).length = (listM y.val).length → slices_Compare_int_int.f 20 (listM x.val) (listM y.val) = some (cmpM x.val y.val) := by decide +kernel
theorem rank_all : ∀ x y : Fin 64, decide (cmpM x.val y.val < 0) = decide (rankM x.val < rankM y.val) := by decide +kernel
theorem rank_inj : ∀ x y : Fin 64, rankM x.val = rankM y.val → x = y := by decide +kernel
def cfM (x y : Fin 64) : Int := cmpM x.val y.val
theorem ltM (x y : Fin 64) : ltOf cfM x y = decide (rankM x.val < rankM y.val) := rank_all x y
theorem swoM : SWO (ltOf cfM) where
  irrefl x := by rw [ltM]; simp
  trans x y z h1 h2 := by rw [ltM] at *; simp at *; omega
  ntrans x y z h1 h2 := by rw [ltM] at *; simp at *; omega
theorem totM (x y : Fin 64) (h1 : ltOf cfM x y = false) (h2 : ltOf cfM y x = false) : x = y := by
  rw [ltM] at h1 h2
  simp only [decide_eq_false_iff_not] at h1 h2
  exact rank_inj x y (by omega)
set_option maxHeartbeats 4000000 in
set_option maxRecDepth 100000 in
theorem listOf_d (m : Nat) (hm : m < 64) (w : World) : Calls Try.prog 75 #[.int .i64 (m : Int)] w fun e w' => ∃ v0 : Value, e = .returned v0 ∧ Kd.R (Kd.int .i64) 3 w' w.heap.size (fun _ => True) v0 (listM m) ∧ BelD w w' := by
  obtain ⟨r, hr⟩ : ∃ r, r = listM m := ⟨_, rfl⟩
  have hrl : r.length ≤ 6 := by rw [hr]; exact listM_len m
  rw [← hr]
  have HR := Aside0.mk hr
  have HL := Aside0.mk hrl
  have HM := Aside0.mk hm
  clear hr hrl
  go_enter Try.func75, Try.ntmps75
  go_wp2_with (first | ((with_reducible refine gate_dst (N := 5) rfl ?_); refine R_lit_d (Kd.int .i64) 3 ?hg (N := 5) ?hd (xs := ([] : List Int)) (inner := []) (ok := fun _ => True) (okp := fun _ => True) ?hr ?hp (fun _ hk => hk) trivial (by simp) ?_; (case hd => rfl); (case hg => rfl); (case hr => first | (go_simp; done) | (go_simp; rfl)); (case hp => exact (Reps.none _ _)); intro v5 w5 ho hb; have O5 := Aside0.mk ho; have B5 := Aside0.mk hb; clear ho hb))
  go_loopg [3, 6] 6 (fun kq v3 v6 w' => ∃ (xs : List Int) (x : Int), v6 = .int .i64 x ∧ Aside0 (∃ i : Nat, x = i ∧ i + kq = 6 ∧ xs ++ (iota i kq).filter (fun i => m.testBit i.toNat) = r) ∧ Aside0 (Kd.R (Kd.int .i64) 3 w' w.heap.size (fun _ => True) v3 xs) ∧ Aside0 (BelD w w'))
  case atStart => exact ⟨[], 0, rfl, ⟨0, rfl, rfl, by rw [HR.out]; rfl⟩, O5, B5⟩
  case round =>
    clear O5 B5
    obtain ⟨xs, x, rfl, HI, HS, HB⟩ := hrel
    by_cases c4 : x < 6
    · have c4b0 : decide (x < 6) = true := decide_eq_true c4
      cases gk with
      | zero => exact absurd HI.out (by rintro ⟨i, h1, h2, _⟩; omega)
      | succ k1 =>
        have hx0 : 0 ≤ x := by obtain ⟨i, h1, _⟩ := HI.out; omega
        have c5b0 := eq_true hx0
        have c5b1 : decide (0 ≤ x) = true := decide_eq_true hx0
        obtain ⟨ji, hji⟩ : ∃ j_ : Int, (shr .i64 (m : Int) x) = j_ := ⟨_, rfl⟩
        have hji_ : ((m : Int) / 2 ^ min x.toNat 64) = ji := hji
        have hjiz : x ≤ 64 → ((m : Int) / 2 ^ x.toNat) = ji := shr_small hji
        have HX := Aside0.mk (show ∃ i : Nat, x = i ∧ i + k1 + 1 = 6 ∧ xs ++ (if m.testBit i = true then [x] else []) ++ (iota (x + 1) k1).filter (fun i => m.testBit i.toNat) = r from by
          obtain ⟨i, h1, h2, h3⟩ := HI.out
          refine ⟨i, h1, by omega, ?_⟩
          rw [iota, List.filter_cons, Int.toNat_natCast] at h3
          rw [h1, List.append_assoc]
          by_cases hb : m.testBit i = true
          · rw [if_pos hb] at h3 ⊢; exact h3
          · rw [if_neg hb] at h3 ⊢; exact h3)
        have HJ := Aside0.mk (show ∀ i : Nat, x = i → Go.bits .and .i64 ji 1 = if m.testBit i then 1 else 0 from by
          intro i hi
          rw [← hji, hi]
          exact bit_and m i (by have := HM.out; omega) (by omega))
        have HW := Aside0.mk (show wrap64 (x + 1) = x + 1 from w64 (by omega) (by omega))
        clear HI c4 hx0 hji
        by_cases c7 : Go.bits .and .i64 ji 1 = 1
        · have c7b0 : (Go.bits .and .i64 ji 1 == 1) = true := beq_iff_eq.mpr c7
          have c7b1 : (Go.bits .and .i64 ji 1 != 1) = false := bne_eq_false_iff_eq.mpr c7
          have HN := Aside0.mk (show ∃ i : Nat, wrap64 (x + 1) = i ∧ i + k1 = 6 ∧ (xs ++ [x]) ++ (iota i k1).filter (fun i => m.testBit i.toNat) = r from by
            obtain ⟨i, h1, h2, h3⟩ := HX.out
            have hb : m.testBit i = true := by
              have := HJ.out i h1
              rw [c7] at this
              by_cases hb : m.testBit i = true
              · exact hb
              · rw [if_neg hb] at this; omega
            rw [if_pos hb] at h3
            refine ⟨i + 1, by rw [HW.out]; omega, by omega, ?_⟩
            rw [show (((i + 1 : Nat) : Int)) = x + 1 by omega]
            exact h3)
          have HXL := Aside0.mk (show xs.length ≤ 6 from by
            obtain ⟨i, h1, h2, h3⟩ := HN.out
            have := congrArg List.length h3
            have := HL.out
            simp only [List.length_append] at *
            omega)
          clear c7 HX HJ
          go_wp2_with (first | ((with_reducible refine gate_builtin (b := .append) (xs := #[.tmp 14, .tmp 16]) rfl ?_); at_builtin; refine R_append_d (Kd.int .i64) (w0 := w) w.heap.size rfl (.tmp 14) (.tmp 16) 24 3 (.int .i64 0) 8 rfl Try.underlying24 info3 rfl (by decide) (by omega) u3 xs x [.int .i64 x] (fun _ => True) (fun _ => False) rfl rfl ?aP (fun _ hk => hk.elim) (fun _ _ => trivial) ?aO ?aB ?aS (Nat.le_refl _) ?aL ?_; (case aP => exact rfl); (case aO => exact HS.out); (case aB => exact HB.out); (case aS => exact HB.out.below.size); (case aL => have := HXL.out; omega); intro v9 w9 ho hb; have O9 := Aside0.mk ho; have B9 := Aside0.mk hb; clear ho hb))
          go_roundg k1
          case measure => omega
          case rel => exact ⟨xs ++ [x], wrap64 (x + 1), (by first | rfl | (simp; done) | (simp [*]; done)), HN, O9, B9⟩
        · have c7b0 : (Go.bits .and .i64 ji 1 == 1) = false := beq_eq_false_iff_ne.mpr c7
          have c7b1 : (Go.bits .and .i64 ji 1 != 1) = true := bne_iff_ne.mpr c7
          have HN := Aside0.mk (show ∃ i : Nat, wrap64 (x + 1) = i ∧ i + k1 = 6 ∧ xs ++ (iota i k1).filter (fun i => m.testBit i.toNat) = r from by
            obtain ⟨i, h1, h2, h3⟩ := HX.out
            have hb : ¬ m.testBit i = true := fun hb => by
              have := HJ.out i h1
              rw [if_pos hb] at this
              exact c7 this
            rw [if_neg hb, List.append_nil] at h3
            refine ⟨i + 1, by rw [HW.out]; omega, by omega, ?_⟩
            rw [show (((i + 1 : Nat) : Int)) = x + 1 by omega]
            exact h3)
          clear c7 HX HJ
          go_wp2
          go_roundg k1
          case measure => omega
          case rel => exact ⟨xs, wrap64 (x + 1), (by first | rfl | (simp; done) | (simp [*]; done)), HN, ⟨by (with_reducible repeat (first | apply Kd.R_alloc | apply Kd.R_drewN | apply Kd.R_drew)); exact HS.out⟩, ⟨by repeat (first | exact HB.out | refine BelD.drewN ?_ _ | refine BelD.drew ?_)⟩⟩
    · have c4b0 : decide (x < 6) = false := decide_eq_false c4
      have HE := Aside0.mk (show xs = r from by
        obtain ⟨i, h1, h2, h3⟩ := HI.out
        rw [show gk = 0 by omega, iota, List.filter_nil, List.append_nil] at h3
        exact h3)
      clear c4 HI
      go_wp2
      go_ret
      exact ⟨_, rfl, by rw [← HE.out]; exact HS.out, HB.out⟩
set_option maxHeartbeats 4000000 in
set_option maxRecDepth 100000 in
theorem cmp_n (x y : Int) (lx ly : List Int) (r : Int) (hlx : lx.length ≤ 6) (hly : ly.length ≤ 6) (hc1 : impl_count.f x = some (lx.length : Int)) (hc2 : impl_count.f y = some (ly.length : Int))
    (hX : ∀ W, Calls Try.prog 75 #[.int .i64 x] W fun e w' => ∃ v0 : Value, e = .returned v0 ∧ Kd.R (Kd.int .i64) 3 w' W.heap.size (fun _ => True) v0 lx ∧ BelD W w')
    (hY : ∀ W, Calls Try.prog 75 #[.int .i64 y] W fun e w' => ∃ v0 : Value, e = .returned v0 ∧ Kd.R (Kd.int .i64) 3 w' W.heap.size (fun _ => True) v0 ly ∧ BelD W w')
    (h1 : lx.length = ly.length → slices_Compare_int_int.f 20 lx ly = some r) (h2 : lx.length ≠ ly.length → r = (lx.length : Int) - ly.length) (w : World) :
    Calls Try.prog 117 #[.int .i64 x, .int .i64 y] w fun e w' => e = .returned (.int .i64 r) ∧ BelD w w' := by
  have CX := Lib.hid hX
  have CY := Lib.hid hY
  have CA := Lib.hid (fun W => impl_count.calls x (lx.length : Int) W hc1)
  have CB := Lib.hid (fun W => impl_count.calls y (ly.length : Int) W hc2)
  obtain ⟨d, hd⟩ : ∃ d : Int, d = (lx.length : Int) - ly.length := ⟨_, rfl⟩
  have hw : IntKind.i64.wrap ((lx.length : Int) - ly.length) = d := by rw [wrap_i64', w64 (by omega) (by omega), hd]
  by_cases h : lx.length = ly.length
  · have e0 : (d != 0) = false := bne_eq_false_iff_eq.mpr (by omega)
    have HCP := Aside0.mk (h1 h)
    clear h h1 h2 hlx hly hc1 hc2 hX hY hd
    go_enter Try.func117, Try.ntmps117
    go_wp2_with (first
      | (go_at_call 73; (with_reducible refine (CA.out _).mono ?_); rintro e w' ⟨rfl, ⟨nd, rfl⟩⟩)
      | (go_at_call 73; (with_reducible refine (CB.out _).mono ?_); rintro e w' ⟨rfl, ⟨nd, rfl⟩⟩)
      | (go_at_call 75; (with_reducible refine (CX.out _).mono ?_); rintro e wx ⟨vx, rfl, hx, hb⟩; obtain ⟨Ax, cx, rfl⟩ := Kd.R_slice hx; have RX := Aside0.mk hx; have BX := Aside0.mk (show BelD w wx from BelD.trans (by repeat (first | exact BelD.refl _ | refine BelD.drewN ?_ _ | refine BelD.drew ?_)) hb); clear hx hb CX)
      | (go_at_call 75; (with_reducible refine (CY.out _).mono ?_); rintro e wy ⟨vy, rfl, hy, hb⟩; obtain ⟨Ay, cy, rfl⟩ := Kd.R_slice hy; have RY := Aside0.mk hy; have RX2 := Aside0.mk (Kd.R_below RX.out hb.below); have BY := Aside0.mk (BX.out.trans hb); clear hy hb)
      | (go_at_call 118; refine (slices_Compare_int_int.calls 20 Ax cx lx Ay cy ly r _ (Kd.R_reads' RX2.out).2.2 (Kd.R_reads' RX2.out).2.1 (Kd.R_reads' RY.out).2.2 (Kd.R_reads' RY.out).2.1 HCP.out).mono ?_; rintro e w' ⟨rfl, ⟨nd, rfl⟩⟩))
    go_ret
    exact ⟨rfl, by repeat (first | exact BY.out | refine BelD.drewN ?_ _ | refine BelD.drew ?_)⟩
  · have e0 : (d != 0) = true := bne_iff_ne.mpr (by omega)
    have hr := h2 h
    rw [← hd] at hr
    have HR := Aside0.mk hr
    clear h h1 h2 hr hd hlx hly hc1 hc2 hX hY CX CY
    go_enter Try.func117, Try.ntmps117
    go_wp2_with (first
      | (go_at_call 73; (with_reducible refine (CA.out _).mono ?_); rintro e w' ⟨rfl, ⟨nd, rfl⟩⟩)
      | (go_at_call 73; (with_reducible refine (CB.out _).mono ?_); rintro e w' ⟨rfl, ⟨nd, rfl⟩⟩))
    go_ret
    exact ⟨by rw [HR.out]; rfl, by repeat (first | exact BelD.refl _ | refine BelD.drewN ?_ _ | refine BelD.drew ?_)⟩
theorem cmp_d (x y : Fin 64) (w : World) : Calls Try.prog 117 #[.int .i64 (x.val : Int), .int .i64 (y.val : Int)] w fun e w' => e = .returned (.int .i64 (cmpM x.val y.val)) ∧ BelD w w' :=
  cmp_n (x.val : Int) (y.val : Int) (listM x.val) (listM y.val) (cmpM x.val y.val) (listM_len _) (listM_len _) (count_all x) (count_all y) (fun W => listOf_d x.val x.isLt W) (fun W => listOf_d y.val y.isLt W) (fun h => compare_all x y h) (fun h => by unfold cmpM; rw [if_neg h]) w
def toF (x : Int) : Fin 64 := ⟨x.toNat % 64, Nat.mod_lt _ (by decide)⟩
def encM (i : Fin 64) : Value := .int .i64 (i.val : Int)
def sortedM (l : List Int) : List Int := ((l.map toF).mergeSort fun x y => !(ltOf cfM) y x).map fun i => (i.val : Int)
def isMask (x : Int) : Bool := decide (0 ≤ x ∧ x < 64)
theorem toF_val {x : Int} (h : isMask x = true) : ((toF x).val : Int) = x := by
  have h2 : 0 ≤ x ∧ x < 64 := of_decide_eq_true h
  unfold toF
  simp only []
  omega
theorem R_written {W : World} {e base g n cap q : Nat} {ok : Nat → Prop} {xs ys : List Int} {os : Array Obj} (h : Kd.R (Kd.int .i64) e W base ok (.slice (some ⟨g, 0, none⟩) n cap) xs) (hl : ys.length = xs.length) :
    Kd.R (Kd.int .i64) e (grow ((W.drewN q).setCells g 0 (ys.map (Value.int .i64))) os) base ok (.slice (some ⟨g, 0, none⟩) n cap) ys ∧ (∀ k, k < W.heap.size → k ≠ g → (grow ((W.drewN q).setCells g 0 (ys.map (Value.int .i64))) os).heap[k]? = W.heap[k]?) ∧ (grow ((W.drewN q).setCells g 0 (ys.map (Value.int .i64))) os).os = W.os ∧ (grow ((W.drewN q).setCells g 0 (ys.map (Value.int .i64))) os).tape = W.tape ∧ (grow ((W.drewN q).setCells g 0 (ys.map (Value.int .i64))) os).output = W.output ∧ W.heap.size ≤ (grow ((W.drewN q).setCells g 0 (ys.map (Value.int .i64))) os).heap.size := by
  have hn := (Kd.R_reads' h).1
  subst hn
  have hown := Kd.own_of_R (enc := Value.int .i64) h
  rcases hown.2 with ⟨hv, _⟩ | ⟨g2, cap2, cur, hv, hbg, hg, hnc, hcm, hcs, htake⟩
  · cases hv
  · injection hv with e1 e2 e3
    injection e1 with e1
    injection e1 with e1 _ _
    subst e1
    subst e3
    have hg2 : (W.drewN q).heap[g]? = some (.cells cur e (0, 0)) := hg
    obtain ⟨cur', h3, h4, h5⟩ := setCells_row (ys.map (Value.int .i64)) 0 (W.drewN q) cur hg2 (by rw [List.length_map]; omega)
    obtain ⟨s1, s2, s3, s4⟩ := setCells_same g (ys.map (Value.int .i64)) 0 (W.drewN q)
    have hlt : g < ((W.drewN q).setCells g 0 (ys.map (Value.int .i64))).heap.size := blk_lt h3
    refine ⟨Kd.R_of_own ⟨by simp [encs], .inr ⟨g, cap, cur', by rw [hl], hbg, ?_, by omega, hcm, by omega, ?_⟩⟩ h.1, fun k hk hne => ?_, s1, s2, s3, ?_⟩
    · rw [heap_grow_old _ _ hlt]; exact h3
    · rw [h5]
      simp [encs]
    · have hk2 : k < ((W.drewN q).setCells g 0 (ys.map (Value.int .i64))).heap.size := by rw [s4]; exact hk
      rw [heap_grow_old _ _ hk2]
      exact setCells_far _ _ k hne
    · rw [size_grow, s4]
      show W.heap.size ≤ W.heap.size + os.size
      omega
end Go.Proofs.Ytgnmcfoenmfhcaa.SortM
namespace Go.Proofs.Ytgnmcfoenmfhcaa.Q
set_option linter.unusedVariables false
open Go Go.Shelf Go.RowKit Go.Lib Go.Sort Go.Proofs Go.Proofs.YtgnmcfoenmfhcaaW.PrintWords Go.Proofs.YtgnmcfoenmfhcaaW.PrintLast Go.Proofs.YtgnmcfoenmfhcaaW.PrintMore
open Go.Proofs.Ytgnmcfoenmfhcaa.GrowK Go.Proofs.Ytgnmcfoenmfhcaa.SortM
def slices_SortFunc_int_int__at_impl_Board_rowSets_1.f (l0 : List Int) : Option (List Int) := if l0.all isMask = true ∧ 1 ≤ l0.length ∧ l0.length ≤ 1000 then some (sortedM l0) else none
set_option maxHeartbeats 4000000 in
set_option maxRecDepth 100000 in
theorem slices_SortFunc_int_int__at_impl_Board_rowSets_1.calls (P0_ : Nat → Prop) (u9000_ : Value) (l0 : List Int) (r : List Int) (w0 w : World) (hB : Below w0.heap.size w0 w) (ho0 : Kd.R (Kd.int .i64) 3 w w0.heap.size P0_ u9000_ l0) (h : slices_SortFunc_int_int__at_impl_Board_rowSets_1.f l0 = some r) :
    Calls Try.prog 116 #[u9000_, .func (.func 117) #[] #[]] w fun e w' => e = .returned (.tuple #[]) ∧ Kd.R (Kd.int .i64) 3 w' w0.heap.size (fun k_ => (P0_ k_ ∨ w.heap.size ≤ k_)) u9000_ r ∧ Below w0.heap.size w0 w' ∧ Kept w w' (fun k_ => P0_ k_) := by
  unfold slices_SortFunc_int_int__at_impl_Board_rowSets_1.f at h
  by_cases c : l0.all isMask = true ∧ 1 ≤ l0.length ∧ l0.length ≤ 1000
  rotate_left
  · rw [if_neg c] at h; cases h
  rw [if_pos c] at h
  obtain rfl := Option.some.inj h
  obtain ⟨hm, h1, h2⟩ := c
  have hown := Kd.own_of_R (enc := Value.int .i64) ho0
  rcases hown.2 with ⟨hv, hx⟩ | ⟨g, cap, cur, hv, hbg, hg, hnc, hcm, hcs, htake⟩
  · omega
  subst hv
  have eg : ∀ args w, (callFunc 117 args).run Try.prog w = .ok (.enter 117 args) w := enters_of Try.func117 (by kernel_rfl) rfl
  have hblk : g < w.heap.size := blk_lt hg
  have hl : (l0.map toF).toArray.size = l0.length := by simp
  have hH : Holds encM w g 0 (l0.map toF).toArray := by
    intro j hj
    rw [hl] at hj
    have hc := Kd.R_celln (0 : Int) ho0 (j : Int) (by omega) (by omega)
    rw [Int.toNat_natCast] at hc
    rw [Nat.zero_add]
    refine ⟨?_, hc.2⟩
    rw [hc.1]
    have hjm := List.all_eq_true.1 hm l0[j] (List.getElem_mem hj)
    have : (l0.map toF).toArray[j]! = toF l0[j] := by simp [hj]
    rw [this]
    unfold encM rdOf
    rw [toF_val hjm]
    simp [hj]
  have hcmp : CmpLays1 Try.prog 117 #[] encM cfM g 0 (l0.map toF).toArray.size w := fun m os dk _ x y => (cmp_d x y _).mono fun e w' ⟨he, hb⟩ => ⟨he, hb.grown⟩
  have hS := Any.slices_SortFunc_total Lay.sortI encM (fun _ => rfl) cfM swoM 117 #[] g 0 cap (l0.map toF).toArray w eg hcmp hH hblk (by rw [hl]; omega) totM
  rw [hl] at hS
  change Calls Try.prog 116 _ _ _ at hS
  refine hS.mono ?_
  rintro e w' ⟨rfl, n, os, rfl⟩
  have hsw : sortWorld encM w g 0 n ((l0.map toF).toArray.toList.mergeSort fun x y => !(ltOf cfM) y x).toArray os = grow ((w.drewN n).setCells g 0 ((sortedM l0).map (Value.int .i64))) os := by
    unfold sortWorld
    rw [Lib.sorted_world encM w g 0 n (l0.map toF).toArray _ os hH (by simp)]
    unfold sortedM
    rw [List.map_map]
    rfl
  obtain ⟨H1, H2, H3, H4, H5, H6⟩ := R_written (q := n) (os := os) (ys := sortedM l0) ho0 (by simp [sortedM])
  rw [hsw]
  refine ⟨rfl, Kd.R_mono H1 (fun _ h => .inl h), ⟨H3.trans hB.os, H4.trans hB.tape, H5.trans hB.output, Nat.le_trans hB.size H6, fun k hk => ?_⟩, ⟨H6, fun i hi hn => H2 i hi (fun he => hn (he ▸ ho0.1 g rfl))⟩⟩
  have hk2 : k < w.heap.size := Nat.lt_of_lt_of_le hk hB.size
  rw [H2 k hk2 (by omega)]
  exact hB.block k hk
end Go.Proofs.Ytgnmcfoenmfhcaa.Q
end
section
namespace Go.Proofs.Ytgnmcfoenmfhcaa.Q
open Go.RowKit Go.Proofs.YtgnmcfoenmfhcaaW.PrintWords Go.Proofs.YtgnmcfoenmfhcaaW.PrintLast Go.Proofs.YtgnmcfoenmfhcaaW.PrintMore
attribute [local go_sem] max2_int min2_int max_two min_two max_three min_three max_four min_four   -- for this text's walks alone
set_option linter.unusedVariables false
set_option linter.unusedSimpArgs false
def impl_Board_rowSets.l0 : Nat → List Int → Int → Int → Option (List Int)
 | 0, _, _, _ => none
 | k + 1, x3, x8, x9 => if x9 < x8 then (if x3.length < 17592186044416 then (impl_Board_rowSets.l0 k (x3 ++ [x9]) x8 (wrap64 (x9 + 1))) else (none)) else ((slices_SortFunc_int_int__at_impl_Board_rowSets_1.f x3).bind fun t108 => (some t108))
def impl_Board_rowSets.f (k : Nat) (a0_0 : Int) (a0_1 : Int) (l0_2 : List Int) : Option (List Int) := if 0 ≤ a0_0 then (impl_Board_rowSets.l0 k (([] : List Int)) (shl .i64 1 a0_0) 0) else (none)
set_option maxHeartbeats 8000000 in
set_option maxRecDepth 100000 in
theorem impl_Board_rowSets.calls (k : Nat) (a0_0 : Int) (a0_1 : Int) (A0_2 : Option Addr) (c0_2 : Nat) (l0_2 : List Int) (r : List Int) (w : World) (hr0_2 : Kd.C (Kd.int .i64) w A0_2 l0_2.length l0_2) (hc0_2 : l0_2.length ≤ c0_2) (h : impl_Board_rowSets.f k a0_0 a0_1 l0_2 = some r) :
  Calls Try.prog 72 #[.agg #[.int .i64 a0_0, .int .i64 a0_1, .slice A0_2 l0_2.length c0_2]] w fun e w' => ∃ v0_ : Value, e = .returned (v0_) ∧ Kd.R (Kd.int .i64) 3 w' w.heap.size (fun _ => True) v0_ r ∧ Below w.heap.size w w' := by
 have hu26 := Try.underlying26
 have HR0_2 := za hr0_2
 have HC0_2 := za hc0_2
 clear hr0_2 hc0_2
 have HB := za (Below.refl w.heap.size w)
 have H : (if 0 ≤ a0_0 then (impl_Board_rowSets.l0 k (([] : List Int)) (shl .i64 1 a0_0) 0) else (none)) = some r := h
 clear h
 obtain ⟨y102, hy102⟩ : ∃ y_ : List Int, y_ = (([] : List Int)) := ⟨_, rfl⟩
 replace H : (if 0 ≤ a0_0 then (impl_Board_rowSets.l0 k y102 (shl .i64 1 a0_0) 0) else (none)) = some r := by first | (rw [hy102]; with_reducible exact H) | (have H2_ := (Option.bind_some _ _).symm.trans H; rw [hy102]; with_reducible exact H2_) | (have H2_ := (Option.bind_some _ _).symm.trans H; with_reducible exact H2_) | with_reducible exact H | (rw [hy102]; exact H) | exact H
 have Ny102 := za hy102
 clear hy102
 by_cases c2 : 0 ≤ a0_0
 ·
  rw [if_pos c2] at H
  have c2b0 := eq_true c2
  have c2b1 : decide (0 ≤ a0_0) = true := decide_eq_true c2
  clear c2
  obtain ⟨ji3, hji3⟩ : ∃ j_ : Int, (shl .i64 1 a0_0) = j_ := ⟨_, rfl⟩
  replace H : (impl_Board_rowSets.l0 k y102 ji3 0) = some r := by first | (rw [hji3] at H; exact H) | (simp only [hji3] at H ⊢; exact H)
  have hji3_ : (IntKind.i64.wrap (1 * 2 ^ min a0_0.toNat 64)) = ji3 := hji3
  have hji3z : a0_0 ≤ 64 → (IntKind.i64.wrap (1 * 2 ^ a0_0.toNat)) = ji3 := shl_small hji3
  have hji3u : (IntKind.i64.wrap (2 ^ min a0_0.toNat 64)) = ji3 := by have h_ := hji3_; rw [Int.one_mul] at h_; exact h_
  have hji3v : a0_0 ≤ 64 → (IntKind.i64.wrap (2 ^ a0_0.toNat)) = ji3 := fun hle_ => by have h_ := hji3z hle_; rw [Int.one_mul] at h_; exact h_
  have hji3y : (wrap64 (1 * 2 ^ min a0_0.toNat 64)) = ji3 := (i64_w _).symm.trans hji3_
  have hji3x : a0_0 ≤ 64 → (wrap64 (1 * 2 ^ a0_0.toNat)) = ji3 := fun h_ => (i64_w _).symm.trans (hji3z h_)
  have H' := za H
  clear H
  go_enter Try.func72, Try.ntmps72
  go_wp2_with (first | ((with_reducible refine gate_dst (N := 1) rfl ?_); refine box_event ?hg (N := 1) ?hd (cs := #[.int .i64 a0_0, .int .i64 a0_1, .slice A0_2 l0_2.length c0_2]) (t := 26) ?hr ?_; (case hd => rfl); (case hg => rfl); (case hr => first | (go_simp; done) | (go_simp; rfl)); intro gb101 hg w4 hbox hb; have n0_ := za (zv (by repeat (first | (with_reducible first | exact HB.out | apply zc | apply ze | apply zb) | exact HB.out)) hb); have n1_ := za (hbox); have n2_ := za ((by rw [hg]; exact (zn (by repeat (first | (with_reducible first | exact HB.out | apply zc | apply ze | apply zb) | exact HB.out))) : w.heap.size ≤ gb101)); have n3_ := za ((by rw [hg]; exact (zn (by repeat (first | (with_reducible first | exact HB.out | apply zc | apply ze | apply zb) | exact HB.out))) : w.heap.size ≤ gb101)); clear HB; have HB := n0_; have BK101 := n1_; have GW101 := n2_; have GE101 := n3_; clear n0_ n1_ n2_ n3_; clear hb hbox hg) | ((with_reducible refine gate_dst (N := 5) rfl ?_); refine Kd.R_lit (Kd.int .i64) _ 3 ?hg (N := 5) ?hd (xs := ([] : List Int)) (inner := []) (ok := fun _ => True) (okp := fun _ => True) ?hr ?hp (fun _ hk => hk) trivial (Below.refl _ _) (Nat.le_refl _) (by simp) ?_; (case hd => rfl); (case hg => rfl); (case hr => first | (go_simp; done) | (go_simp; rfl)); (case hp => exact (Reps.none _ _)); intro v103 w5 ho6 hb hg_ hnew_; clear hg_ hnew_; (first | rw [← Ny102.out] at ho6 | (simp only [Int.reduceToNat] at ho6; rw [← Ny102.out] at ho6)); have n0_ := za (Kd.R_lower ho6 (zn (by repeat (first | (with_reducible first | exact HB.out | apply zc | apply ze | apply zb | refine zd ?_ GE101.out) | exact HB.out)))); have n1_ := za (zB (g := gb101) (o := .cells #[.int .i64 a0_0, .int .i64 a0_1, .slice A0_2 l0_2.length c0_2] 26 (0, 0)) (by (with_reducible repeat (first | refine zh ?_ _ | refine zf ?_ | refine zi ?_ _)); exact BK101.out) hb); have n2_ := za (zv (by repeat (first | (with_reducible first | exact HB.out | apply zc | apply ze | apply zb | refine zd ?_ GE101.out) | exact HB.out)) hb); clear BK101 HB; have HO104 := n0_; have BK101 := n1_; have HB := n2_; clear n0_ n1_ n2_; clear hb ho6; have hcz7_0 : w5.cell? ⟨gb101, 0, none⟩ = some (.int .i64 a0_0) := (zg BK101.out 0).trans rfl; have hcz7_1 : w5.cell? ⟨gb101, 1, none⟩ = some (.int .i64 a0_1) := (zg BK101.out 1).trans rfl; have hcz7_2 : w5.cell? ⟨gb101, 2, none⟩ = some (.slice A0_2 l0_2.length c0_2) := (zg BK101.out 2).trans rfl; have hfz7_0 := zj BK101.out 0; have hfz7_1 := zj BK101.out 1; have hfz7_2 := zj BK101.out 2))
  go_loopg [3, 9] k (fun kq v3 v9 w' => ∃ (x3_1 : List Int) (x9_1 : Int), v9 = .int .i64 x9_1 ∧ Aside0 (impl_Board_rowSets.l0 kq x3_1 ji3 x9_1 = some r) ∧ Aside0 (kq ≤ k) ∧ Aside0 (Kd.R (Kd.int .i64) 3 w' w.heap.size (fun _ => True) v3 x3_1) ∧ Aside0 (w'.heap[gb101]? = some (.cells #[.int .i64 a0_0, .int .i64 a0_1, (.slice A0_2 l0_2.length c0_2)] 26 (0, 0))) ∧ Aside0 (Below w.heap.size w w'))
  case atStart => exact ⟨(y102), (0), (by first | rfl | (simp; done) | (simp [*]; done)), H', ⟨Nat.le_refl _⟩, ⟨by (with_reducible repeat (first | apply zl | apply zm | apply zk)); exact HO104.out⟩, ⟨by (with_reducible repeat (first | refine zh ?_ _ | refine zf ?_ | refine zi ?_ _)); exact BK101.out⟩, ⟨by repeat (first | (with_reducible first | exact HB.out | apply zc | apply ze | apply zb | refine zd ?_ GE101.out) | exact HB.out)⟩⟩
  case round =>
   clear H'
   try clear c2
   try clear c2b0
   try clear c2b1
   try clear p2
   try clear p6
   try clear c7
   try clear hcz7_0
   try clear hcz7_1
   try clear hcz7_2
   try clear hfz7_0
   try clear hfz7_1
   try clear hfz7_2
   obtain ⟨x3_1, x9_1, rfl, HA, HK1, HO_3, BK101, HB⟩ := hrel
   cases gk with
   | zero => exact absurd HA.out (by simp [impl_Board_rowSets.l0])
   | succ k1 =>
    have H := HA.out
    clear HA
    simp only [impl_Board_rowSets.l0] at H
    by_cases c8 : x9_1 < ji3
    ·
     rw [if_pos c8] at H
     have c8b0 : decide (x9_1 < ji3) = true := decide_eq_true c8
     clear c8
     by_cases c9 : x3_1.length < 17592186044416
     ·
      rw [if_pos c9] at H
      have LMc9 := za c9
      clear c9
      obtain ⟨y105, hy105⟩ : ∃ y_ : List Int, y_ = (x3_1 ++ [x9_1]) := ⟨_, rfl⟩
      replace H : (impl_Board_rowSets.l0 k1 y105 ji3 (wrap64 (x9_1 + 1))) = some r := by first | (rw [hy105]; with_reducible exact H) | (have H2_ := (Option.bind_some _ _).symm.trans H; rw [hy105]; with_reducible exact H2_) | (have H2_ := (Option.bind_some _ _).symm.trans H; with_reducible exact H2_) | with_reducible exact H | (rw [hy105]; exact H) | exact H
      have Ny105 := za hy105
      clear hy105
      have H' := za H
      clear H
      go_wp2_with (first | ((with_reducible refine gate_builtin (b := .append) (xs := #[.tmp 12, .tmp 14]) rfl ?_); at_builtin; refine Kd.R_append (Kd.int .i64) (w0 := w) w.heap.size rfl (.tmp 12) (.tmp 14) 24 3 (.int .i64 0) 8 rfl Try.underlying24 info3 rfl (by decide) (by omega) u3 x3_1 x9_1 [.int .i64 x9_1] (fun _ => True) (fun _ => False) rfl rfl ?aP (fun _ hk => hk.elim) ?aF ?aO ?aB ?aS ?aL ?_; (case aP => exact rfl); (case aB => exact (by repeat (first | (with_reducible first | exact HB.out | apply zc | apply ze | apply zb | refine zd ?_ GE101.out) | exact HB.out))); (case aF => exact (fun _ _ => trivial)); (case aO => exact (by (with_reducible repeat (first | apply zl | apply zm | apply zk)); exact HO_3.out)); (case aS => exact (zn (by repeat (first | (with_reducible first | exact HB.out | apply zc | apply ze | apply zb | refine zd ?_ GE101.out) | exact HB.out)))); (case aL => have := LMc9.out; omega); intro v106 w10 ho hb hg hat; rw [← Ny105.out] at ho; have n0_ := za (blk_grown (g := gb101) (o := .cells #[.int .i64 a0_0, .int .i64 a0_1, .slice A0_2 l0_2.length c0_2] 26 (0, 0)) (by (with_reducible repeat (first | refine zh ?_ _ | refine zf ?_ | refine zi ?_ _)); exact BK101.out) hg (Kd.R_ne HO_3.out BK101.out (by decide))); have n1_ := za (hb); have n2_ := za (ho); clear BK101 HB HO_3; have BK101 := n0_; have HB := n1_; have HO107 := n2_; clear n0_ n1_ n2_; clear ho hb hg hat))
      go_roundg k1
      case measure => have := HK1.out; omega
      case rel => exact ⟨(y105), (wrap64 (x9_1 + 1)), (by first | rfl | (simp; done) | (simp [*]; done)), H', ⟨by have := HK1.out; omega⟩, ⟨by (with_reducible repeat (first | apply zl | apply zm | apply zk)); exact HO107.out⟩, ⟨by (with_reducible repeat (first | refine zh ?_ _ | refine zf ?_ | refine zi ?_ _)); exact BK101.out⟩, ⟨by repeat (first | (with_reducible first | exact HB.out | apply zc | apply ze | apply zb | refine zd ?_ GE101.out) | exact HB.out)⟩⟩
     ·
      rw [if_neg c9] at H
      exact absurd H (by simp)
    ·
     rw [if_neg c8] at H
     have c8b0 : decide (x9_1 < ji3) = false := decide_eq_false c8
     clear c8
     replace H := Option.bind_eq_some_iff.mp H
     obtain ⟨t108, A110, H⟩ := H
     replace H : (some t108) = some r := H
     have A11 := za A110
     clear A110
     obtain rfl := Option.some.inj H
     obtain ⟨Ao12, co12, eo12⟩ := Kd.R_slice HO_3.out
     subst eo12
     go_wp2_with (first | ((with_reducible refine zu (f := 116) rfl ?_); refine goesL_ (some 18) rfl rfl Try.func116 (by kernel_rfl) rfl #[.slice Ao12 x3_1.length co12, .func (.func 117) #[] #[]] rfl (by (try simp only [List.map_toArray, List.map_cons, List.map_nil]); first | done | rfl | (simp only [List.length_drop, List.length_take]; rfl)) ?_; (with_reducible refine (slices_SortFunc_int_int__at_impl_Board_rowSets_1.calls (fun k_ => some k_ = (.slice Ao12 x3_1.length co12 : Value).ownBlock) (.slice Ao12 x3_1.length co12) x3_1  t108 w _ ?side1 ?side2 A11.out).mono ?_); (case side1 => repeat (first | (with_reducible first | exact HB.out | apply zc | apply ze | apply zb | refine zd ?_ GE101.out) | exact HB.out)); (case side2 => exact Kd.R_tight rfl HO_3.out); rintro e w13 ⟨rfl, hy0, hb, hkp⟩; refine ⟨_, rfl, ?_⟩; have n0_ := za (Kd.R_reok rfl hy0 (fun k_ e_ => HO_3.out.1 k_ e_)); have n1_ := za (blk_kept (by (with_reducible repeat (first | refine zh ?_ _ | refine zf ?_ | refine zi ?_ _)); exact BK101.out) hkp (fun hs_ => (fun e_ => (Kd.R_ne HO_3.out BK101.out (by decide)) e_) hs_)); have n2_ := za (hb); clear HO_3 BK101 HB; have HO_3 := n0_; have BK101 := n1_; have HB := n2_; clear n0_ n1_ n2_; (try clear hb); (try clear hkp); (try clear hy0)))
     go_ret
     exact ⟨_, by first | rfl | (simp [errW_none, errW_some] <;> rfl) | (simp only [← hji3]; first | rfl | (simp [errW_none, errW_some] <;> rfl)) | (simp [*, errW_none, errW_some] <;> rfl), by (with_reducible repeat (first | apply zl | apply zm | apply zk)); exact HO_3.out, by repeat (first | (with_reducible first | exact HB.out | apply zc | apply ze | apply zb | refine zd ?_ GE101.out) | exact HB.out)⟩
 ·
  rw [if_neg c2] at H
  exact absurd H (by simp)
end Go.Proofs.Ytgnmcfoenmfhcaa.Q
end
section
namespace Go.Proofs.Ytgnmcfoenmfhcaa.Q
open Go.RowKit Go.Proofs.YtgnmcfoenmfhcaaW.PrintWords Go.Proofs.YtgnmcfoenmfhcaaW.PrintLast Go.Proofs.YtgnmcfoenmfhcaaW.PrintMore
attribute [local go_sem] max2_int min2_int max_two min_two max_three min_three max_four min_four   -- for this text's walks alone
set_option linter.unusedVariables false
set_option linter.unusedSimpArgs false
def impl_RefusingRows.l0 : Nat → List Int → Int → Int → Int → Int → List Int → Option (List Int × Bool)
 | 0, _, _, _, _, _, _ => none
 | k + 1, x10, x11, x12, x102000, x102001, x102002 => if x12 < x11 then (if 0 ≤ x12 then (if x12 < (x10.length : Int) then ((impl_Board_columns.f k x102000 x102001 x102002 (rd x10 x12)).bind fun t107 => ((impl_count.f t107).bind fun t108 => ((impl_count.f (rd x10 x12)).bind fun t109 => (if t108 < t109 then ((impl_listOf.f k (rd x10 x12)).bind fun t110 => (some (t110, true))) else (impl_RefusingRows.l0 k x10 x11 (wrap64 (x12 + 1)) x102000 x102001 x102002))))) else (none)) else (none)) else (some (([] : List Int), false))
def impl_RefusingRows.f (k : Nat) (a0_0 : Int) (a0_1 : Int) (l0_2 : List Int) : Option (List Int × Bool) := (impl_IsBoard.f a0_0 a0_1 l0_2).bind fun t102 => (if t102 = true then ((impl_Board_rowSets.f k a0_0 a0_1 l0_2).bind fun t103 => (impl_RefusingRows.l0 k t103 (t103.length : Int) 0 a0_0 a0_1 l0_2)) else (some (([] : List Int), false)))
set_option maxHeartbeats 8000000 in
set_option maxRecDepth 100000 in
theorem impl_RefusingRows.calls (k : Nat) (a0_0 : Int) (a0_1 : Int) (A0_2 : Option Addr) (c0_2 : Nat) (l0_2 : List Int) (r1 : List Int) (r2 : Bool) (w : World) (hr0_2 : Kd.C (Kd.int .i64) w A0_2 l0_2.length l0_2) (hc0_2 : l0_2.length ≤ c0_2) (h : impl_RefusingRows.f k a0_0 a0_1 l0_2 = some (r1, r2)) :
  Calls Try.prog 19 #[.agg #[.int .i64 a0_0, .int .i64 a0_1, .slice A0_2 l0_2.length c0_2]] w fun e w' => ∃ v0_ : Value, e = .returned (.tuple #[v0_, .bool r2]) ∧ Kd.R (Kd.int .i64) 3 w' w.heap.size (fun _ => True) v0_ r1 ∧ Below w.heap.size w w' := by
 have hu26 := Try.underlying26
 have HR0_2 := za hr0_2
 have HC0_2 := za hc0_2
 clear hr0_2 hc0_2
 have HB := za (Below.refl w.heap.size w)
 have H : ((impl_IsBoard.f a0_0 a0_1 l0_2).bind fun t102 => (if t102 = true then ((impl_Board_rowSets.f k a0_0 a0_1 l0_2).bind fun t103 => (impl_RefusingRows.l0 k t103 (t103.length : Int) 0 a0_0 a0_1 l0_2)) else (some (([] : List Int), false)))) = some (r1, r2) := h
 clear h
 replace H := Option.bind_eq_some_iff.mp H
 obtain ⟨t102, A20, H⟩ := H
 replace H : (if t102 = true then ((impl_Board_rowSets.f k a0_0 a0_1 l0_2).bind fun t103 => (impl_RefusingRows.l0 k t103 (t103.length : Int) 0 a0_0 a0_1 l0_2)) else (some (([] : List Int), false))) = some (r1, r2) := H
 have A2 := za A20
 clear A20
 by_cases c3 : t102 = true
 ·
  subst c3
  have H1 : ((impl_Board_rowSets.f k a0_0 a0_1 l0_2).bind fun t103 => (impl_RefusingRows.l0 k t103 (t103.length : Int) 0 a0_0 a0_1 l0_2)) = some (r1, r2) := by rw [if_pos rfl] at H; exact H
  clear H
  have H := H1
  clear H1
  replace H := Option.bind_eq_some_iff.mp H
  obtain ⟨t103, A40, H⟩ := H
  replace H : (impl_RefusingRows.l0 k t103 (t103.length : Int) 0 a0_0 a0_1 l0_2) = some (r1, r2) := H
  have A4 := za A40
  clear A40
  have H' := za H
  clear H
  go_enter Try.func19, Try.ntmps19
  go_wp2_with (first | ((with_reducible refine gate_dst (N := 1) rfl ?_); refine box_event ?hg (N := 1) ?hd (cs := #[.int .i64 a0_0, .int .i64 a0_1, .slice A0_2 l0_2.length c0_2]) (t := 26) ?hr ?_; (case hd => rfl); (case hg => rfl); (case hr => first | (go_simp; done) | (go_simp; rfl)); intro gb101 hg w5 hbox hb; have n0_ := za (zv (by repeat (first | (with_reducible first | exact HB.out | apply zc | apply ze | apply zb) | exact HB.out)) hb); have n1_ := za (hbox); have n2_ := za ((by rw [hg]; exact (zn (by repeat (first | (with_reducible first | exact HB.out | apply zc | apply ze | apply zb) | exact HB.out))) : w.heap.size ≤ gb101)); have n3_ := za ((by rw [hg]; exact (zn (by repeat (first | (with_reducible first | exact HB.out | apply zc | apply ze | apply zb) | exact HB.out))) : w.heap.size ≤ gb101)); clear HB; have HB := n0_; have BK101 := n1_; have GW101 := n2_; have GE101 := n3_; clear n0_ n1_ n2_ n3_; clear hb hbox hg; have hcz6_0 : w5.cell? ⟨gb101, 0, none⟩ = some (.int .i64 a0_0) := (zg BK101.out 0).trans rfl; have hcz6_1 : w5.cell? ⟨gb101, 1, none⟩ = some (.int .i64 a0_1) := (zg BK101.out 1).trans rfl; have hcz6_2 : w5.cell? ⟨gb101, 2, none⟩ = some (.slice A0_2 l0_2.length c0_2) := (zg BK101.out 2).trans rfl; have hfz6_0 := zj BK101.out 0; have hfz6_1 := zj BK101.out 1; have hfz6_2 := zj BK101.out 2) | ((with_reducible refine zu (f := 71) rfl ?_); refine goesL_ (some 7) rfl rfl Try.func71 (by kernel_rfl) rfl #[.agg #[.int .i64 a0_0, .int .i64 a0_1, .slice A0_2 l0_2.length c0_2]] rfl (by (try simp only [List.map_toArray, List.map_cons, List.map_nil]); first | done | rfl | (simp only [List.length_drop, List.length_take]; rfl)) ?_; (with_reducible refine (impl_IsBoard.calls a0_0 a0_1 _ _ l0_2 true _ ?side1 ?side2 A2.out).mono ?_); (case side1 => repeat (first | exact (zE HR0_2.out HB.out) | (with_reducible refine zw ?_ _) | (with_reducible refine zx ?_ _) | (with_reducible refine zy ?_))); (case side2 => exact HC0_2.out); rintro e w7 ⟨rfl, hb⟩; refine ⟨_, rfl, ?_⟩; have n0_ := za (zB (g := gb101) (o := .cells #[.int .i64 a0_0, .int .i64 a0_1, .slice A0_2 l0_2.length c0_2] 26 (0, 0)) (by (with_reducible repeat (first | refine zh ?_ _ | refine zf ?_ | refine zi ?_ _)); exact BK101.out) hb); have n1_ := za (zv (by repeat (first | (with_reducible first | exact HB.out | apply zc | apply ze | apply zb | refine zd ?_ GE101.out) | exact HB.out)) hb); clear BK101 HB; have BK101 := n0_; have HB := n1_; clear n0_ n1_; (try clear hb); (try clear hb2); (try clear hk); (try clear hi); have hcz8_0 : w7.cell? ⟨gb101, 0, none⟩ = some (.int .i64 a0_0) := (zg BK101.out 0).trans rfl; have hcz8_1 : w7.cell? ⟨gb101, 1, none⟩ = some (.int .i64 a0_1) := (zg BK101.out 1).trans rfl; have hcz8_2 : w7.cell? ⟨gb101, 2, none⟩ = some (.slice A0_2 l0_2.length c0_2) := (zg BK101.out 2).trans rfl; have hfz8_0 := zj BK101.out 0; have hfz8_1 := zj BK101.out 1; have hfz8_2 := zj BK101.out 2) | ((with_reducible refine zu (f := 72) rfl ?_); refine goesL_ (some 10) rfl rfl Try.func72 (by kernel_rfl) rfl #[.agg #[.int .i64 a0_0, .int .i64 a0_1, .slice A0_2 l0_2.length c0_2]] rfl (by (try simp only [List.map_toArray, List.map_cons, List.map_nil]); first | done | rfl | (simp only [List.length_drop, List.length_take]; rfl)) ?_; (with_reducible refine (impl_Board_rowSets.calls k a0_0 a0_1 _ _ l0_2 t103 _ ?side1 ?side2 A4.out).mono ?_); (case side1 => repeat (first | exact (zE HR0_2.out HB.out) | (with_reducible refine zw ?_ _) | (with_reducible refine zx ?_ _) | (with_reducible refine zy ?_))); (case side2 => exact HC0_2.out); rintro e w9 ⟨v104, rfl, ho0, hb⟩; refine ⟨_, rfl, ?_⟩; have n0_ := za (Kd.R_lower ho0 (zn (by repeat (first | (with_reducible first | exact HB.out | apply zc | apply ze | apply zb | refine zd ?_ GE101.out) | exact HB.out)))); have n1_ := za (zB (g := gb101) (o := .cells #[.int .i64 a0_0, .int .i64 a0_1, .slice A0_2 l0_2.length c0_2] 26 (0, 0)) (by (with_reducible repeat (first | refine zh ?_ _ | refine zf ?_ | refine zi ?_ _)); exact BK101.out) hb); have n2_ := za (zv (by repeat (first | (with_reducible first | exact HB.out | apply zc | apply ze | apply zb | refine zd ?_ GE101.out) | exact HB.out)) hb); clear BK101 HB; have HO105 := n0_; have BK101 := n1_; have HB := n2_; clear n0_ n1_ n2_; (try clear hb); (try clear hb2); (try clear hk); (try clear hi); (try clear ho0); obtain ⟨Ao10, co10, eo10⟩ := Kd.R_slice HO105.out; subst eo10))
  go_loopg [12] k (fun kq v12 w' => ∃ (x12_1 : Int), v12 = .int .i64 x12_1 ∧ Aside0 (impl_RefusingRows.l0 kq t103 (t103.length : Int) x12_1 a0_0 a0_1 l0_2 = some (r1, r2)) ∧ Aside0 (kq ≤ k) ∧ Aside0 (Kd.R (Kd.int .i64) 3 w' w.heap.size (fun _ => True) (.slice Ao10 t103.length co10) t103) ∧ Aside0 (w'.heap[gb101]? = some (.cells #[.int .i64 a0_0, .int .i64 a0_1, (.slice A0_2 l0_2.length c0_2)] 26 (0, 0))) ∧ Aside0 (Below w.heap.size w w'))
  case atStart => exact ⟨(0), (by first | rfl | (simp; done) | (simp [*]; done)), H', ⟨Nat.le_refl _⟩, ⟨by (with_reducible repeat (first | apply zl | apply zm | apply zk)); exact HO105.out⟩, ⟨by (with_reducible repeat (first | refine zh ?_ _ | refine zf ?_ | refine zi ?_ _)); exact BK101.out⟩, ⟨by repeat (first | (with_reducible first | exact HB.out | apply zc | apply ze | apply zb | refine zd ?_ GE101.out) | exact HB.out)⟩⟩
  case round =>
   clear H'
   try clear c1
   try clear p2
   try clear c3
   try clear c7
   try clear hcz6_0
   try clear hcz6_1
   try clear hcz6_2
   try clear hcz8_0
   try clear hcz8_1
   try clear hcz8_2
   try clear hfz6_0
   try clear hfz6_1
   try clear hfz6_2
   try clear hfz8_0
   try clear hfz8_1
   try clear hfz8_2
   obtain ⟨x12_1, rfl, HA, HK1, HO_10, BK101, HB⟩ := hrel
   cases gk with
   | zero => exact absurd HA.out (by simp [impl_RefusingRows.l0])
   | succ k1 =>
    have H := HA.out
    clear HA
    simp only [impl_RefusingRows.l0] at H
    by_cases c11 : x12_1 < (t103.length : Int)
    ·
     rw [if_pos c11] at H
     have c11b0 : decide (x12_1 < (t103.length : Int)) = true := decide_eq_true c11
     clear c11
     by_cases c12 : 0 ≤ x12_1
     ·
      rw [if_pos c12] at H
      have c12b0 : decide (0 ≤ x12_1) = true := decide_eq_true c12
      clear c12
      by_cases c13 : x12_1 < (t103.length : Int)
      ·
       rw [if_pos c13] at H
       have c13b0 : decide (x12_1 < (t103.length : Int)) = true := decide_eq_true c13
       clear c13
       replace H := Option.bind_eq_some_iff.mp H
       obtain ⟨t107, A140, H⟩ := H
       replace H : ((impl_count.f t107).bind fun t108 => ((impl_count.f (rd t103 x12_1)).bind fun t109 => (if t108 < t109 then ((impl_listOf.f k1 (rd t103 x12_1)).bind fun t110 => (some (t110, true))) else (impl_RefusingRows.l0 k1 t103 (t103.length : Int) (wrap64 (x12_1 + 1)) a0_0 a0_1 l0_2)))) = some (r1, r2) := H
       have A14 := za A140
       clear A140
       replace H := Option.bind_eq_some_iff.mp H
       obtain ⟨t108, A150, H⟩ := H
       replace H : ((impl_count.f (rd t103 x12_1)).bind fun t109 => (if t108 < t109 then ((impl_listOf.f k1 (rd t103 x12_1)).bind fun t110 => (some (t110, true))) else (impl_RefusingRows.l0 k1 t103 (t103.length : Int) (wrap64 (x12_1 + 1)) a0_0 a0_1 l0_2))) = some (r1, r2) := H
       have A15 := za A150
       clear A150
       replace H := Option.bind_eq_some_iff.mp H
       obtain ⟨t109, A160, H⟩ := H
       replace H : (if t108 < t109 then ((impl_listOf.f k1 (rd t103 x12_1)).bind fun t110 => (some (t110, true))) else (impl_RefusingRows.l0 k1 t103 (t103.length : Int) (wrap64 (x12_1 + 1)) a0_0 a0_1 l0_2)) = some (r1, r2) := H
       have A16 := za A160
       clear A160
       by_cases c17 : t108 < t109
       ·
        rw [if_pos c17] at H
        have c17b0 : decide (t108 < t109) = true := decide_eq_true c17
        clear c17
        replace H := Option.bind_eq_some_iff.mp H
        obtain ⟨t110, A180, H⟩ := H
        replace H : (some (t110, true)) = some (r1, r2) := H
        have A18 := za A180
        clear A180
        simp only [Option.some.injEq, Prod.mk.injEq] at H
        obtain ⟨rfl, rfl⟩ := H
        have p106 : 0 ≤ (x12_1 : Int) := of_decide_eq_true (by first | (with_reducible assumption) | assumption)
        have q106 : x12_1 < (t103.length : Int) := of_decide_eq_true (by first | (with_reducible assumption) | assumption)
        obtain ⟨ad106, e106, hx106_0⟩ := Kd.at_int (zA HO_10.out).2.2 x12_1 p106 q106
        cases e106
        replace p106 := eq_true p106
        replace q106 := eq_true q106
        have hcz19_0 : wr.cell? ⟨gb101, 0, none⟩ = some (.int .i64 a0_0) := (zg BK101.out 0).trans rfl
        have hcz19_1 : wr.cell? ⟨gb101, 1, none⟩ = some (.int .i64 a0_1) := (zg BK101.out 1).trans rfl
        have hcz19_2 : wr.cell? ⟨gb101, 2, none⟩ = some (.slice A0_2 l0_2.length c0_2) := (zg BK101.out 2).trans rfl
        have hfz19_0 := zj BK101.out 0
        have hfz19_1 := zj BK101.out 1
        have hfz19_2 := zj BK101.out 2
        go_wp2_with (first | ((with_reducible refine zu (f := 74) rfl ?_); refine goesL_ (some 18) rfl rfl Try.func74 (by kernel_rfl) rfl #[.agg #[.int .i64 a0_0, .int .i64 a0_1, .slice A0_2 l0_2.length c0_2], .int .i64 (rd t103 x12_1)] rfl (by (try simp only [List.map_toArray, List.map_cons, List.map_nil]); first | done | rfl | (simp only [List.length_drop, List.length_take]; rfl)) ?_; (with_reducible refine (impl_Board_columns.calls k1 a0_0 a0_1 _ _ l0_2 (rd t103 x12_1) t107 _ ?side1 ?side2 A14.out).mono ?_); (case side1 => repeat (first | exact (zE HR0_2.out HB.out) | (with_reducible refine zw ?_ _) | (with_reducible refine zx ?_ _) | (with_reducible refine zy ?_))); (case side2 => exact HC0_2.out); rintro e w20 ⟨rfl, hb⟩; refine ⟨_, rfl, ?_⟩; have n0_ := za (Kd.R_below (by (with_reducible repeat (first | apply zl | apply zm | apply zk)); exact HO_10.out) hb); have n1_ := za (zB (g := gb101) (o := .cells #[.int .i64 a0_0, .int .i64 a0_1, .slice A0_2 l0_2.length c0_2] 26 (0, 0)) (by (with_reducible repeat (first | refine zh ?_ _ | refine zf ?_ | refine zi ?_ _)); exact BK101.out) hb); have n2_ := za (zv (by repeat (first | (with_reducible first | exact HB.out | apply zc | apply ze | apply zb | refine zd ?_ GE101.out) | exact HB.out)) hb); clear HO_10 BK101 HB; have HO_10 := n0_; have BK101 := n1_; have HB := n2_; clear n0_ n1_ n2_; (try clear hb); (try clear hb2); (try clear hk); (try clear hi)) | ((with_reducible refine zu (f := 73) rfl ?_); refine goesL_ (some 19) rfl rfl Try.func73 (by kernel_rfl) rfl #[.int .i64 t107] rfl (by (try simp only [List.map_toArray, List.map_cons, List.map_nil]); first | done | rfl | (simp only [List.length_drop, List.length_take]; rfl)) ?_; (with_reducible refine (impl_count.calls t107 t108 _ A15.out).mono ?_); rintro e w' ⟨rfl, ⟨nd, rfl⟩⟩; refine ⟨_, rfl, ?_⟩) | ((with_reducible refine zu (f := 73) rfl ?_); refine goesL_ (some 21) rfl rfl Try.func73 (by kernel_rfl) rfl #[.int .i64 (rd t103 x12_1)] rfl (by (try simp only [List.map_toArray, List.map_cons, List.map_nil]); first | done | rfl | (simp only [List.length_drop, List.length_take]; rfl)) ?_; (with_reducible refine (impl_count.calls (rd t103 x12_1) t109 _ A16.out).mono ?_); rintro e w' ⟨rfl, ⟨nd, rfl⟩⟩; refine ⟨_, rfl, ?_⟩) | ((with_reducible refine zu (f := 75) rfl ?_); refine goesL_ (some 24) rfl rfl Try.func75 (by kernel_rfl) rfl #[.int .i64 (rd t103 x12_1)] rfl (by (try simp only [List.map_toArray, List.map_cons, List.map_nil]); first | done | rfl | (simp only [List.length_drop, List.length_take]; rfl)) ?_; (with_reducible refine (impl_listOf.calls k1 (rd t103 x12_1) t110 _ A18.out).mono ?_); rintro e w21 ⟨v111, rfl, ho0, hb⟩; refine ⟨_, rfl, ?_⟩; have n0_ := za (Kd.R_elder' (by (with_reducible repeat (first | apply zl | apply zm | apply zk)); exact HO_10.out) (Kd.R_base ho0) hb); have n1_ := za (Kd.R_lower (Kd.R_new' ho0 (Kd.R_lt (by (with_reducible repeat (first | apply zl | apply zm | apply zk)); exact HO_10.out))) (zn (by repeat (first | (with_reducible first | exact HB.out | apply zc | apply ze | apply zb | refine zd ?_ GE101.out) | exact HB.out)))); have n2_ := za (zB (g := gb101) (o := .cells #[.int .i64 a0_0, .int .i64 a0_1, .slice A0_2 l0_2.length c0_2] 26 (0, 0)) (by (with_reducible repeat (first | refine zh ?_ _ | refine zf ?_ | refine zi ?_ _)); exact BK101.out) hb); have n3_ := za (zv (by repeat (first | (with_reducible first | exact HB.out | apply zc | apply ze | apply zb | refine zd ?_ GE101.out) | exact HB.out)) hb); clear HO_10 BK101 HB; have HO_10 := n0_; have HO112 := n1_; have BK101 := n2_; have HB := n3_; clear n0_ n1_ n2_ n3_; (try clear hb); (try clear hb2); (try clear hk); (try clear hi); (try clear ho0)))
        go_ret2
        exact ⟨_, by first | rfl | (simp [errW_none, errW_some] <;> rfl) | (simp [*, errW_none, errW_some] <;> rfl), by (with_reducible repeat (first | apply zl | apply zm | apply zk)); exact zz HO112.out (fun _ hk => trivial), by repeat (first | (with_reducible first | exact HB.out | apply zc | apply ze | apply zb | refine zd ?_ GE101.out) | exact HB.out)⟩
       ·
        rw [if_neg c17] at H
        have c17b0 : decide (t108 < t109) = false := decide_eq_false c17
        clear c17
        have H' := za H
        clear H
        have p106 : 0 ≤ (x12_1 : Int) := of_decide_eq_true (by first | (with_reducible assumption) | assumption)
        have q106 : x12_1 < (t103.length : Int) := of_decide_eq_true (by first | (with_reducible assumption) | assumption)
        obtain ⟨ad106, e106, hx106_0⟩ := Kd.at_int (zA HO_10.out).2.2 x12_1 p106 q106
        cases e106
        replace p106 := eq_true p106
        replace q106 := eq_true q106
        have hcz22_0 : wr.cell? ⟨gb101, 0, none⟩ = some (.int .i64 a0_0) := (zg BK101.out 0).trans rfl
        have hcz22_1 : wr.cell? ⟨gb101, 1, none⟩ = some (.int .i64 a0_1) := (zg BK101.out 1).trans rfl
        have hcz22_2 : wr.cell? ⟨gb101, 2, none⟩ = some (.slice A0_2 l0_2.length c0_2) := (zg BK101.out 2).trans rfl
        have hfz22_0 := zj BK101.out 0
        have hfz22_1 := zj BK101.out 1
        have hfz22_2 := zj BK101.out 2
        go_wp2_with (first | ((with_reducible refine zu (f := 74) rfl ?_); refine goesL_ (some 18) rfl rfl Try.func74 (by kernel_rfl) rfl #[.agg #[.int .i64 a0_0, .int .i64 a0_1, .slice A0_2 l0_2.length c0_2], .int .i64 (rd t103 x12_1)] rfl (by (try simp only [List.map_toArray, List.map_cons, List.map_nil]); first | done | rfl | (simp only [List.length_drop, List.length_take]; rfl)) ?_; (with_reducible refine (impl_Board_columns.calls k1 a0_0 a0_1 _ _ l0_2 (rd t103 x12_1) t107 _ ?side1 ?side2 A14.out).mono ?_); (case side1 => repeat (first | exact (zE HR0_2.out HB.out) | (with_reducible refine zw ?_ _) | (with_reducible refine zx ?_ _) | (with_reducible refine zy ?_))); (case side2 => exact HC0_2.out); rintro e w23 ⟨rfl, hb⟩; refine ⟨_, rfl, ?_⟩; have n0_ := za (Kd.R_below (by (with_reducible repeat (first | apply zl | apply zm | apply zk)); exact HO_10.out) hb); have n1_ := za (zB (g := gb101) (o := .cells #[.int .i64 a0_0, .int .i64 a0_1, .slice A0_2 l0_2.length c0_2] 26 (0, 0)) (by (with_reducible repeat (first | refine zh ?_ _ | refine zf ?_ | refine zi ?_ _)); exact BK101.out) hb); have n2_ := za (zv (by repeat (first | (with_reducible first | exact HB.out | apply zc | apply ze | apply zb | refine zd ?_ GE101.out) | exact HB.out)) hb); clear HO_10 BK101 HB; have HO_10 := n0_; have BK101 := n1_; have HB := n2_; clear n0_ n1_ n2_; (try clear hb); (try clear hb2); (try clear hk); (try clear hi)) | ((with_reducible refine zu (f := 73) rfl ?_); refine goesL_ (some 19) rfl rfl Try.func73 (by kernel_rfl) rfl #[.int .i64 t107] rfl (by (try simp only [List.map_toArray, List.map_cons, List.map_nil]); first | done | rfl | (simp only [List.length_drop, List.length_take]; rfl)) ?_; (with_reducible refine (impl_count.calls t107 t108 _ A15.out).mono ?_); rintro e w' ⟨rfl, ⟨nd, rfl⟩⟩; refine ⟨_, rfl, ?_⟩) | ((with_reducible refine zu (f := 73) rfl ?_); refine goesL_ (some 21) rfl rfl Try.func73 (by kernel_rfl) rfl #[.int .i64 (rd t103 x12_1)] rfl (by (try simp only [List.map_toArray, List.map_cons, List.map_nil]); first | done | rfl | (simp only [List.length_drop, List.length_take]; rfl)) ?_; (with_reducible refine (impl_count.calls (rd t103 x12_1) t109 _ A16.out).mono ?_); rintro e w' ⟨rfl, ⟨nd, rfl⟩⟩; refine ⟨_, rfl, ?_⟩))
        go_roundg k1
        case measure => have := HK1.out; omega
        case rel => exact ⟨(wrap64 (x12_1 + 1)), (by first | rfl | (simp; done) | (simp [*]; done)), H', ⟨by have := HK1.out; omega⟩, ⟨by (with_reducible repeat (first | apply zl | apply zm | apply zk)); exact HO_10.out⟩, ⟨by (with_reducible repeat (first | refine zh ?_ _ | refine zf ?_ | refine zi ?_ _)); exact BK101.out⟩, ⟨by repeat (first | (with_reducible first | exact HB.out | apply zc | apply ze | apply zb | refine zd ?_ GE101.out) | exact HB.out)⟩⟩
      ·
       rw [if_neg c13] at H
       exact absurd H (by simp)
     ·
      rw [if_neg c12] at H
      exact absurd H (by simp)
    ·
     rw [if_neg c11] at H
     have c11b0 : decide (x12_1 < (t103.length : Int)) = false := decide_eq_false c11
     clear c11
     simp only [Option.some.injEq, Prod.mk.injEq] at H
     obtain ⟨rfl, rfl⟩ := H
     go_wp2
     go_ret2
     exact ⟨_, by first | rfl | (simp [errW_none, errW_some] <;> rfl) | (simp [*, errW_none, errW_some] <;> rfl), by first | exact Kd.R_nil _ _ _ _ _ | exact Kd.N_nil _ _ _ _ _ | exact Kd.V_nil _ _ _ _ _ | exact Kd.Q_nil _ _ _ _ _ | exact Kd.S_nil _ _ _ _ _, by repeat (first | (with_reducible first | exact HB.out | apply zc | apply ze | apply zb | refine zd ?_ GE101.out) | exact HB.out)⟩
 ·
  replace c3 := Bool.eq_false_iff.mpr c3
  subst c3
  have H1 : (some (([] : List Int), false)) = some (r1, r2) := by rw [if_neg (show ¬ (false = true) by decide)] at H; exact H
  clear H
  have H := H1
  clear H1
  simp only [Option.some.injEq, Prod.mk.injEq] at H
  obtain ⟨rfl, rfl⟩ := H
  go_enter Try.func19, Try.ntmps19
  go_wp2_with (first | ((with_reducible refine gate_dst (N := 1) rfl ?_); refine box_event ?hg (N := 1) ?hd (cs := #[.int .i64 a0_0, .int .i64 a0_1, .slice A0_2 l0_2.length c0_2]) (t := 26) ?hr ?_; (case hd => rfl); (case hg => rfl); (case hr => first | (go_simp; done) | (go_simp; rfl)); intro gb101 hg w24 hbox hb; have n0_ := za (zv (by repeat (first | (with_reducible first | exact HB.out | apply zc | apply ze | apply zb) | exact HB.out)) hb); have n1_ := za (hbox); have n2_ := za ((by rw [hg]; exact (zn (by repeat (first | (with_reducible first | exact HB.out | apply zc | apply ze | apply zb) | exact HB.out))) : w.heap.size ≤ gb101)); have n3_ := za ((by rw [hg]; exact (zn (by repeat (first | (with_reducible first | exact HB.out | apply zc | apply ze | apply zb) | exact HB.out))) : w.heap.size ≤ gb101)); clear HB; have HB := n0_; have BK101 := n1_; have GW101 := n2_; have GE101 := n3_; clear n0_ n1_ n2_ n3_; clear hb hbox hg; have hcz25_0 : w24.cell? ⟨gb101, 0, none⟩ = some (.int .i64 a0_0) := (zg BK101.out 0).trans rfl; have hcz25_1 : w24.cell? ⟨gb101, 1, none⟩ = some (.int .i64 a0_1) := (zg BK101.out 1).trans rfl; have hcz25_2 : w24.cell? ⟨gb101, 2, none⟩ = some (.slice A0_2 l0_2.length c0_2) := (zg BK101.out 2).trans rfl; have hfz25_0 := zj BK101.out 0; have hfz25_1 := zj BK101.out 1; have hfz25_2 := zj BK101.out 2) | ((with_reducible refine zu (f := 71) rfl ?_); refine goesL_ (some 7) rfl rfl Try.func71 (by kernel_rfl) rfl #[.agg #[.int .i64 a0_0, .int .i64 a0_1, .slice A0_2 l0_2.length c0_2]] rfl (by (try simp only [List.map_toArray, List.map_cons, List.map_nil]); first | done | rfl | (simp only [List.length_drop, List.length_take]; rfl)) ?_; (with_reducible refine (impl_IsBoard.calls a0_0 a0_1 _ _ l0_2 false _ ?side1 ?side2 A2.out).mono ?_); (case side1 => repeat (first | exact (zE HR0_2.out HB.out) | (with_reducible refine zw ?_ _) | (with_reducible refine zx ?_ _) | (with_reducible refine zy ?_))); (case side2 => exact HC0_2.out); rintro e w26 ⟨rfl, hb⟩; refine ⟨_, rfl, ?_⟩; have n0_ := za (zB (g := gb101) (o := .cells #[.int .i64 a0_0, .int .i64 a0_1, .slice A0_2 l0_2.length c0_2] 26 (0, 0)) (by (with_reducible repeat (first | refine zh ?_ _ | refine zf ?_ | refine zi ?_ _)); exact BK101.out) hb); have n1_ := za (zv (by repeat (first | (with_reducible first | exact HB.out | apply zc | apply ze | apply zb | refine zd ?_ GE101.out) | exact HB.out)) hb); clear BK101 HB; have BK101 := n0_; have HB := n1_; clear n0_ n1_; (try clear hb); (try clear hb2); (try clear hk); (try clear hi)))
  go_ret2
  exact ⟨_, by first | rfl | (simp [errW_none, errW_some] <;> rfl) | (simp [*, errW_none, errW_some] <;> rfl), by first | exact Kd.R_nil _ _ _ _ _ | exact Kd.N_nil _ _ _ _ _ | exact Kd.V_nil _ _ _ _ _ | exact Kd.Q_nil _ _ _ _ _ | exact Kd.S_nil _ _ _ _ _, by repeat (first | (with_reducible first | exact HB.out | apply zc | apply ze | apply zb | refine zd ?_ GE101.out) | exact HB.out)⟩
end Go.Proofs.Ytgnmcfoenmfhcaa.Q
end
section
namespace Go.Proofs.Ytgnmcfoenmfhcaa.Q
open Go.RowKit Go.Proofs.YtgnmcfoenmfhcaaW.PrintWords Go.Proofs.YtgnmcfoenmfhcaaW.PrintLast Go.Proofs.YtgnmcfoenmfhcaaW.PrintMore
attribute [local go_sem] max2_int min2_int max_two min_two max_three min_three max_four min_four   -- for this text's walks alone
set_option linter.unusedVariables false
set_option linter.unusedSimpArgs false
def impl_LackOf.l0 : Nat → Int → List Int → Int → Int → Int → Int → List Int → Option (Int × Bool)
 | 0, _, _, _, _, _, _, _ => none
 | k + 1, x4, x11, x12, x13, x102000, x102001, x102002 => if x13 < x12 then (if 0 ≤ x13 then (if x13 < (x11.length : Int) then ((impl_count.f (rd x11 x13)).bind fun t107 => ((impl_Board_columns.f k x102000 x102001 x102002 (rd x11 x13)).bind fun t108 => ((impl_count.f t108).bind fun t109 => (impl_LackOf.l0 k (mx x4 (wrap64 (t107 - t109))) x11 x12 (wrap64 (x13 + 1)) x102000 x102001 x102002)))) else (none)) else (none)) else (some (x4, true))
def impl_LackOf.f (k : Nat) (a0_0 : Int) (a0_1 : Int) (l0_2 : List Int) : Option (Int × Bool) := (impl_IsBoard.f a0_0 a0_1 l0_2).bind fun t102 => (if t102 = true then ((impl_Board_rowSets.f k a0_0 a0_1 l0_2).bind fun t103 => (impl_LackOf.l0 k 0 t103 (t103.length : Int) 0 a0_0 a0_1 l0_2)) else (some (0, false)))
def impl_LackOf.T7 : Bool × List (List Nat × List Nat) := (true, [([], []), ([], []), ([1], [1]), ([], []), ([], []), ([3, 4, 2], [3, 4]), ([5, 5], [5]), ([2, 6], [2, 6]), ([0, 7], [0, 7]), ([8, 6, 0, 1, 2, 3, 4, 5, 6, 7, 8], [0, 8])])
def impl_LackOf.B7 : List Nat := [0, 0, 2, 0, 0, 30, 62, 126, 255, 511]
theorem impl_LackOf.tab7 : rtab .any (opsOf Try.f21 7) = impl_LackOf.T7 := by kernel_rfl
theorem impl_LackOf.bits7 : waitsOk impl_LackOf.T7.2 impl_LackOf.B7 = true := by kernel_rfl
set_option maxHeartbeats 8000000 in
set_option maxRecDepth 100000 in
theorem impl_LackOf.calls (k : Nat) (a0_0 : Int) (a0_1 : Int) (A0_2 : Option Addr) (c0_2 : Nat) (l0_2 : List Int) (r1 : Int) (r2 : Bool) (w : World) (hr0_2 : Kd.C (Kd.int .i64) w A0_2 l0_2.length l0_2) (hc0_2 : l0_2.length ≤ c0_2) (h : impl_LackOf.f k a0_0 a0_1 l0_2 = some (r1, r2)) :
  Calls Try.prog 21 #[.agg #[.int .i64 a0_0, .int .i64 a0_1, .slice A0_2 l0_2.length c0_2]] w fun e w' => e = .returned (.tuple #[.int .i64 r1, .bool r2]) ∧ Below w.heap.size w w' := by
 have hu26 := Try.underlying26
 have HR0_2 := za hr0_2
 have HC0_2 := za hc0_2
 clear hr0_2 hc0_2
 have HB := za (Below.refl w.heap.size w)
 have H : ((impl_IsBoard.f a0_0 a0_1 l0_2).bind fun t102 => (if t102 = true then ((impl_Board_rowSets.f k a0_0 a0_1 l0_2).bind fun t103 => (impl_LackOf.l0 k 0 t103 (t103.length : Int) 0 a0_0 a0_1 l0_2)) else (some (0, false)))) = some (r1, r2) := h
 clear h
 replace H := Option.bind_eq_some_iff.mp H
 obtain ⟨t102, A20, H⟩ := H
 replace H : (if t102 = true then ((impl_Board_rowSets.f k a0_0 a0_1 l0_2).bind fun t103 => (impl_LackOf.l0 k 0 t103 (t103.length : Int) 0 a0_0 a0_1 l0_2)) else (some (0, false))) = some (r1, r2) := H
 have A2 := za A20
 clear A20
 by_cases c3 : t102 = true
 ·
  subst c3
  have H1 : ((impl_Board_rowSets.f k a0_0 a0_1 l0_2).bind fun t103 => (impl_LackOf.l0 k 0 t103 (t103.length : Int) 0 a0_0 a0_1 l0_2)) = some (r1, r2) := by rw [if_pos rfl] at H; exact H
  clear H
  have H := H1
  clear H1
  replace H := Option.bind_eq_some_iff.mp H
  obtain ⟨t103, A40, H⟩ := H
  replace H : (impl_LackOf.l0 k 0 t103 (t103.length : Int) 0 a0_0 a0_1 l0_2) = some (r1, r2) := H
  have A4 := za A40
  clear A40
  have H' := za H
  clear H
  go_enter Try.func21, Try.ntmps21
  go_wp2_with (first | ((with_reducible refine gate_dst (N := 1) rfl ?_); refine box_event ?hg (N := 1) ?hd (cs := #[.int .i64 a0_0, .int .i64 a0_1, .slice A0_2 l0_2.length c0_2]) (t := 26) ?hr ?_; (case hd => rfl); (case hg => rfl); (case hr => first | (go_simp; done) | (go_simp; rfl)); intro gb101 hg w5 hbox hb; have n0_ := za (zv (by repeat (first | (with_reducible first | exact HB.out | apply zc | apply ze | apply zb) | exact HB.out)) hb); have n1_ := za (hbox); have n2_ := za ((by rw [hg]; exact (zn (by repeat (first | (with_reducible first | exact HB.out | apply zc | apply ze | apply zb) | exact HB.out))) : w.heap.size ≤ gb101)); have n3_ := za ((by rw [hg]; exact (zn (by repeat (first | (with_reducible first | exact HB.out | apply zc | apply ze | apply zb) | exact HB.out))) : w.heap.size ≤ gb101)); clear HB; have HB := n0_; have BK101 := n1_; have GW101 := n2_; have GE101 := n3_; clear n0_ n1_ n2_ n3_; clear hb hbox hg; have hcz6_0 : w5.cell? ⟨gb101, 0, none⟩ = some (.int .i64 a0_0) := (zg BK101.out 0).trans rfl; have hcz6_1 : w5.cell? ⟨gb101, 1, none⟩ = some (.int .i64 a0_1) := (zg BK101.out 1).trans rfl; have hcz6_2 : w5.cell? ⟨gb101, 2, none⟩ = some (.slice A0_2 l0_2.length c0_2) := (zg BK101.out 2).trans rfl; have hfz6_0 := zj BK101.out 0; have hfz6_1 := zj BK101.out 1; have hfz6_2 := zj BK101.out 2) | ((with_reducible refine zu (f := 71) rfl ?_); refine goesL_ (some 8) rfl rfl Try.func71 (by kernel_rfl) rfl #[.agg #[.int .i64 a0_0, .int .i64 a0_1, .slice A0_2 l0_2.length c0_2]] rfl (by (try simp only [List.map_toArray, List.map_cons, List.map_nil]); first | done | rfl | (simp only [List.length_drop, List.length_take]; rfl)) ?_; (with_reducible refine (impl_IsBoard.calls a0_0 a0_1 _ _ l0_2 true _ ?side1 ?side2 A2.out).mono ?_); (case side1 => repeat (first | exact (zE HR0_2.out HB.out) | (with_reducible refine zw ?_ _) | (with_reducible refine zx ?_ _) | (with_reducible refine zy ?_))); (case side2 => exact HC0_2.out); rintro e w7 ⟨rfl, hb⟩; refine ⟨_, rfl, ?_⟩; have n0_ := za (zB (g := gb101) (o := .cells #[.int .i64 a0_0, .int .i64 a0_1, .slice A0_2 l0_2.length c0_2] 26 (0, 0)) (by (with_reducible repeat (first | refine zh ?_ _ | refine zf ?_ | refine zi ?_ _)); exact BK101.out) hb); have n1_ := za (zv (by repeat (first | (with_reducible first | exact HB.out | apply zc | apply ze | apply zb | refine zd ?_ GE101.out) | exact HB.out)) hb); clear BK101 HB; have BK101 := n0_; have HB := n1_; clear n0_ n1_; (try clear hb); (try clear hb2); (try clear hk); (try clear hi); have hcz8_0 : w7.cell? ⟨gb101, 0, none⟩ = some (.int .i64 a0_0) := (zg BK101.out 0).trans rfl; have hcz8_1 : w7.cell? ⟨gb101, 1, none⟩ = some (.int .i64 a0_1) := (zg BK101.out 1).trans rfl; have hcz8_2 : w7.cell? ⟨gb101, 2, none⟩ = some (.slice A0_2 l0_2.length c0_2) := (zg BK101.out 2).trans rfl; have hfz8_0 := zj BK101.out 0; have hfz8_1 := zj BK101.out 1; have hfz8_2 := zj BK101.out 2) | ((with_reducible refine zu (f := 72) rfl ?_); refine goesL_ (some 11) rfl rfl Try.func72 (by kernel_rfl) rfl #[.agg #[.int .i64 a0_0, .int .i64 a0_1, .slice A0_2 l0_2.length c0_2]] rfl (by (try simp only [List.map_toArray, List.map_cons, List.map_nil]); first | done | rfl | (simp only [List.length_drop, List.length_take]; rfl)) ?_; (with_reducible refine (impl_Board_rowSets.calls k a0_0 a0_1 _ _ l0_2 t103 _ ?side1 ?side2 A4.out).mono ?_); (case side1 => repeat (first | exact (zE HR0_2.out HB.out) | (with_reducible refine zw ?_ _) | (with_reducible refine zx ?_ _) | (with_reducible refine zy ?_))); (case side2 => exact HC0_2.out); rintro e w9 ⟨v104, rfl, ho0, hb⟩; refine ⟨_, rfl, ?_⟩; have n0_ := za (Kd.R_lower ho0 (zn (by repeat (first | (with_reducible first | exact HB.out | apply zc | apply ze | apply zb | refine zd ?_ GE101.out) | exact HB.out)))); have n1_ := za (zB (g := gb101) (o := .cells #[.int .i64 a0_0, .int .i64 a0_1, .slice A0_2 l0_2.length c0_2] 26 (0, 0)) (by (with_reducible repeat (first | refine zh ?_ _ | refine zf ?_ | refine zi ?_ _)); exact BK101.out) hb); have n2_ := za (zv (by repeat (first | (with_reducible first | exact HB.out | apply zc | apply ze | apply zb | refine zd ?_ GE101.out) | exact HB.out)) hb); clear BK101 HB; have HO105 := n0_; have BK101 := n1_; have HB := n2_; clear n0_ n1_ n2_; (try clear hb); (try clear hb2); (try clear hk); (try clear hi); (try clear ho0); obtain ⟨Ao10, co10, eo10⟩ := Kd.R_slice HO105.out; subst eo10))
  go_loopg [4, 13] k (fun kq v4 v13 w' => ∃ (x4_1 : Int) (x13_1 : Int), v4 = .int .i64 x4_1 ∧ v13 = .int .i64 x13_1 ∧ Aside0 (impl_LackOf.l0 kq x4_1 t103 (t103.length : Int) x13_1 a0_0 a0_1 l0_2 = some (r1, r2)) ∧ Aside0 (kq ≤ k) ∧ Aside0 (Kd.R (Kd.int .i64) 3 w' w.heap.size (fun _ => True) (.slice Ao10 t103.length co10) t103) ∧ Aside0 (w'.heap[gb101]? = some (.cells #[.int .i64 a0_0, .int .i64 a0_1, (.slice A0_2 l0_2.length c0_2)] 26 (0, 0))) ∧ Aside0 (Below w.heap.size w w'))
  case atStart => exact ⟨(0), (0), (by first | rfl | (simp; done) | (simp [*]; done)), (by first | rfl | (simp; done) | (simp [*]; done)), H', ⟨Nat.le_refl _⟩, ⟨by (with_reducible repeat (first | apply zl | apply zm | apply zk)); exact HO105.out⟩, ⟨by (with_reducible repeat (first | refine zh ?_ _ | refine zf ?_ | refine zi ?_ _)); exact BK101.out⟩, ⟨by repeat (first | (with_reducible first | exact HB.out | apply zc | apply ze | apply zb | refine zd ?_ GE101.out) | exact HB.out)⟩⟩
  case round =>
   clear H'
   try clear c2
   try clear p2
   try clear c3
   try clear c7
   try clear hcz6_0
   try clear hcz6_1
   try clear hcz6_2
   try clear hcz8_0
   try clear hcz8_1
   try clear hcz8_2
   try clear hfz6_0
   try clear hfz6_1
   try clear hfz6_2
   try clear hfz8_0
   try clear hfz8_1
   try clear hfz8_2
   obtain ⟨x4_1, x13_1, rfl, rfl, HA, HK1, HO_11, BK101, HB⟩ := hrel
   cases gk with
   | zero => exact absurd HA.out (by simp [impl_LackOf.l0])
   | succ k1 =>
    have H := HA.out
    clear HA
    simp only [impl_LackOf.l0] at H
    by_cases c11 : x13_1 < (t103.length : Int)
    ·
     rw [if_pos c11] at H
     have c11b0 : decide (x13_1 < (t103.length : Int)) = true := decide_eq_true c11
     clear c11
     by_cases c12 : 0 ≤ x13_1
     ·
      rw [if_pos c12] at H
      have c12b0 : decide (0 ≤ x13_1) = true := decide_eq_true c12
      clear c12
      by_cases c13 : x13_1 < (t103.length : Int)
      ·
       rw [if_pos c13] at H
       have c13b0 : decide (x13_1 < (t103.length : Int)) = true := decide_eq_true c13
       clear c13
       replace H := Option.bind_eq_some_iff.mp H
       obtain ⟨t107, A140, H⟩ := H
       replace H : ((impl_Board_columns.f k1 a0_0 a0_1 l0_2 (rd t103 x13_1)).bind fun t108 => ((impl_count.f t108).bind fun t109 => (impl_LackOf.l0 k1 (mx x4_1 (wrap64 (t107 - t109))) t103 (t103.length : Int) (wrap64 (x13_1 + 1)) a0_0 a0_1 l0_2))) = some (r1, r2) := H
       have A14 := za A140
       clear A140
       replace H := Option.bind_eq_some_iff.mp H
       obtain ⟨t108, A150, H⟩ := H
       replace H : ((impl_count.f t108).bind fun t109 => (impl_LackOf.l0 k1 (mx x4_1 (wrap64 (t107 - t109))) t103 (t103.length : Int) (wrap64 (x13_1 + 1)) a0_0 a0_1 l0_2)) = some (r1, r2) := H
       have A15 := za A150
       clear A150
       replace H := Option.bind_eq_some_iff.mp H
       obtain ⟨t109, A160, H⟩ := H
       replace H : (impl_LackOf.l0 k1 (mx x4_1 (wrap64 (t107 - t109))) t103 (t103.length : Int) (wrap64 (x13_1 + 1)) a0_0 a0_1 l0_2) = some (r1, r2) := H
       have A16 := za A160
       clear A160
       obtain ⟨ji17, hji17⟩ : ∃ j_ : Int, (mx x4_1 (wrap64 (t107 - t109))) = j_ := ⟨_, rfl⟩
       replace H : (impl_LackOf.l0 k1 ji17 t103 (t103.length : Int) (wrap64 (x13_1 + 1)) a0_0 a0_1 l0_2) = some (r1, r2) := by first | (rw [hji17] at H; exact H) | (simp only [hji17] at H ⊢; exact H)
       (try rw [hji17] at A14)
       (try rw [hji17] at A15)
       (try rw [hji17] at A16)
       have hji17_ : (if x4_1 < (wrap64 (t107 - t109)) then (wrap64 (t107 - t109)) else x4_1) = ji17 := hji17
       have H' := za H
       clear H
       have p106 : 0 ≤ (x13_1 : Int) := of_decide_eq_true (by first | (with_reducible assumption) | assumption)
       have q106 : x13_1 < (t103.length : Int) := of_decide_eq_true (by first | (with_reducible assumption) | assumption)
       obtain ⟨ad106, e106, hx106_0⟩ := Kd.at_int (zA HO_11.out).2.2 x13_1 p106 q106
       cases e106
       replace p106 := eq_true p106
       replace q106 := eq_true q106
       try go_wp2
       have n0_ := za (zk HO_11.out)
       have n1_ := za (zf BK101.out)
       have n2_ := za (zb HB.out)
       clear HO_11
       clear BK101
       clear HB
       have HO_11 := n0_
       have BK101 := n1_
       have HB := n2_
       clear n0_ n1_ n2_
       refine start_ (n := 10) (S := fun w' => w'.cell? ⟨gb101, 0, none⟩ = some (.int .i64 a0_0) ∧ w'.cell? ⟨gb101, 1, none⟩ = some (.int .i64 a0_1) ∧ w'.cell? ⟨gb101, 2, none⟩ = some (.slice A0_2 l0_2.length c0_2)) (ds := []) #[false, false, false, false, false, false, false, false, false, false] (by kernel_rfl) rfl rfl ⟨(zg BK101.out 0).trans rfl, (zg BK101.out 1).trans rfl, (zg BK101.out 2).trans rfl⟩ (fun hHeld => ?_); refine with_tabW impl_LackOf.tab7 impl_LackOf.bits7 (fun HT_ HW_ => ?_)
       generalize wr.drew = w18 at HO_11 BK101 HB hHeld ⊢
       refine pure_ (i := 0) (N := some 17) (v := ?_) (a' := ?_) #[true, false, false, false, false, false, false, false, false, false] rfl rfl (any_of HT_.out (by kernel_rfl)) (fun _ _ _ h => h) (Or.inl ⟨by rfl, ?_⟩) ?_ ?_
       rotate_left
       ·
        intro w'
        go_simp
        with_reducible rfl
       rotate_left
       ·
        simp only [Act.put, List.setIfInBounds_toArray, List.set_cons_zero, List.set_cons_succ, i64_w, i32_w]
        rfl
       refine pure_ (i := 1) (N := some 18) (v := ?_) (a' := ?_) #[true, true, false, false, false, false, false, false, false, false] rfl rfl (any_of HT_.out (by kernel_rfl)) (fun _ _ _ h => h) (Or.inl ⟨by rfl, ?_⟩) ?_ ?_
       rotate_left
       ·
        intro w'
        go_simp
        with_reducible rfl
       rotate_left
       ·
        simp only [Act.put, List.setIfInBounds_toArray, List.set_cons_zero, List.set_cons_succ, i64_w, i32_w]
        rfl
       refine pure_ (i := 4) (N := some 21) (v := ?_) (a' := ?_) #[true, true, false, false, true, false, false, false, false, false] rfl rfl (any_of HT_.out (by kernel_rfl)) (fun _ _ _ h => h) (Or.inl ⟨by rfl, ?_⟩) ?_ ?_
       rotate_left
       ·
        intro w'
        go_simp
        with_reducible rfl
       rotate_left
       ·
        simp only [Act.put, List.setIfInBounds_toArray, List.set_cons_zero, List.set_cons_succ, i64_w, i32_w]
        rfl
       refine take_ (i := 3) (N := some 20) (v := ?_) (a' := ?_) #[true, true, false, true, true, false, false, false, false, false] rfl rfl (take_ofW HT_.out HW_.out (by kernel_rfl)) (fun _ _ _ h => h) (Or.inl ⟨by rfl, ?_⟩) hHeld ?_ ?_
       rotate_left
       ·
        rintro w' ⟨s0, s1, s2⟩
        go_simp
        with_reducible rfl
       rotate_left
       ·
        simp only [Act.put, List.setIfInBounds_toArray, List.set_cons_zero, List.set_cons_succ, i64_w, i32_w]
        rfl
       refine one_ (i := 2) (N := some 19) #[true, true, true, true, true, false, false, false, false, false] rfl rfl (one_of HT_.out (by kernel_rfl)) (by decide) (fun K hK => ?_)
       refine goes_ Try.func73 (by kernel_rfl) rfl #[.int .i64 (rd t103 x13_1)] (by rfl) rfl rfl (by (try simp only [List.map_toArray, List.map_cons, List.map_nil]); first | done | rfl | (simp only [List.length_drop, List.length_take]; rfl)) ?_
       with_reducible refine (impl_count.calls (rd t103 x13_1) t107 _ A14.out).mono ?_
       rintro e w' ⟨rfl, ⟨nd, rfl⟩⟩
       refine ⟨_, rfl, ?_⟩
       refine hK.out _ _ ⟨(zg BK101.out 0).trans rfl, (zg BK101.out 1).trans rfl, (zg BK101.out 2).trans rfl⟩ (fun hHeld => ?_)
       clear hK K
       refine norm_ (a' := ?_) ?_ ?_
       rotate_left
       ·
        show Act.put _ (some 19) _ = _
        simp only [Act.put, List.setIfInBounds_toArray, List.set_cons_zero, List.set_cons_succ, i64_w, i32_w]
        rfl
       refine one_ (i := 5) (N := some 22) #[true, true, true, true, true, true, false, false, false, false] rfl rfl (one_of HT_.out (by kernel_rfl)) (by decide) (fun K hK => ?_)
       refine goes_ Try.func74 (by kernel_rfl) rfl #[.agg #[.int .i64 a0_0, .int .i64 a0_1, .slice A0_2 l0_2.length c0_2], .int .i64 (rd t103 x13_1)] (by rfl) rfl rfl (by (try simp only [List.map_toArray, List.map_cons, List.map_nil]); first | done | rfl | (simp only [List.length_drop, List.length_take]; rfl)) ?_
       with_reducible refine (impl_Board_columns.calls k1 a0_0 a0_1 _ _ l0_2 (rd t103 x13_1) t108 _ ?side1 ?side2 A15.out).mono ?_
       (case side1 => repeat (first | exact (zE HR0_2.out (by repeat (first | (with_reducible first | exact HB.out | apply zc | apply ze | apply zb | refine zd ?_ GE101.out) | exact HB.out))) | (with_reducible refine zw ?_ _) | (with_reducible refine zx ?_ _) | (with_reducible refine zy ?_)))
       (case side2 => exact HC0_2.out)
       rintro e w19 ⟨rfl, hb⟩
       refine ⟨_, rfl, ?_⟩
       have n0_ := za (Kd.R_below (by (with_reducible repeat (first | apply zl | apply zm | apply zk)); exact HO_11.out) hb)
       have n1_ := za (zB (g := gb101) (o := .cells #[.int .i64 a0_0, .int .i64 a0_1, .slice A0_2 l0_2.length c0_2] 26 (0, 0)) (by (with_reducible repeat (first | refine zh ?_ _ | refine zf ?_ | refine zi ?_ _)); exact BK101.out) hb)
       have n2_ := za (zv (by repeat (first | (with_reducible first | exact HB.out | apply zc | apply ze | apply zb | refine zd ?_ GE101.out) | exact HB.out)) hb)
       clear HO_11
       clear BK101
       clear HB
       have HO_11 := n0_
       have BK101 := n1_
       have HB := n2_
       clear n0_ n1_ n2_
       (try clear hb)
       (try clear hb2)
       (try clear hk)
       (try clear hi)
       refine hK.out _ _ ⟨(zg BK101.out 0).trans rfl, (zg BK101.out 1).trans rfl, (zg BK101.out 2).trans rfl⟩ (fun hHeld => ?_)
       clear hK K
       refine norm_ (a' := ?_) ?_ ?_
       rotate_left
       ·
        show Act.put _ (some 22) _ = _
        simp only [Act.put, List.setIfInBounds_toArray, List.set_cons_zero, List.set_cons_succ, i64_w, i32_w]
        rfl
       refine one_ (i := 6) (N := some 23) #[true, true, true, true, true, true, true, false, false, false] rfl rfl (one_of HT_.out (by kernel_rfl)) (by decide) (fun K hK => ?_)
       refine goes_ Try.func73 (by kernel_rfl) rfl #[.int .i64 t108] (by rfl) rfl rfl (by (try simp only [List.map_toArray, List.map_cons, List.map_nil]); first | done | rfl | (simp only [List.length_drop, List.length_take]; rfl)) ?_
       with_reducible refine (impl_count.calls t108 t109 _ A16.out).mono ?_
       rintro e w' ⟨rfl, ⟨nd, rfl⟩⟩
       refine ⟨_, rfl, ?_⟩
       refine hK.out _ _ ⟨(zg BK101.out 0).trans rfl, (zg BK101.out 1).trans rfl, (zg BK101.out 2).trans rfl⟩ (fun hHeld => ?_)
       clear hK K
       refine norm_ (a' := ?_) ?_ ?_
       rotate_left
       ·
        show Act.put _ (some 23) _ = _
        simp only [Act.put, List.setIfInBounds_toArray, List.set_cons_zero, List.set_cons_succ, i64_w, i32_w]
        rfl
       refine pure_ (i := 7) (N := some 24) (v := ?_) (a' := ?_) #[true, true, true, true, true, true, true, true, false, false] rfl rfl (any_of HT_.out (by kernel_rfl)) (fun _ _ _ h => h) (Or.inl ⟨by rfl, ?_⟩) ?_ ?_
       rotate_left
       ·
        intro w'
        go_simp
        with_reducible rfl
       rotate_left
       ·
        simp only [Act.put, List.setIfInBounds_toArray, List.set_cons_zero, List.set_cons_succ, i64_w, i32_w]
        rfl
       refine pure_ (i := 8) (N := some 25) (v := ?_) (a' := ?_) #[true, true, true, true, true, true, true, true, true, false] rfl rfl (any_of HT_.out (by kernel_rfl)) (fun _ _ _ h => h) (Or.inl ⟨by rfl, ?_⟩) ?_ ?_
       rotate_left
       ·
        intro w'
        go_simp
        with_reducible rfl
       rotate_left
       ·
        simp only [Act.put, List.setIfInBounds_toArray, List.set_cons_zero, List.set_cons_succ, i64_w, i32_w]
        rfl
       refine pure_ (i := 9) (N := some 4) (v := ?_) (a' := ?_) #[true, true, true, true, true, true, true, true, true, true] rfl rfl (any_of HT_.out (by kernel_rfl)) (fun _ _ _ h => h) (Or.inl ⟨by rfl, ?_⟩) ?_ ?_
       rotate_left
       ·
        intro w'
        go_simp
        with_reducible rfl
       rotate_left
       ·
        simp only [Act.put, List.setIfInBounds_toArray, List.set_cons_zero, List.set_cons_succ, i64_w, i32_w]
        rfl
       refine done_ (done_of HT_.out (by kernel_rfl)) ?_
       try go_wp2
       go_roundg k1
       case measure => have := HK1.out; omega
       case rel => exact ⟨(ji17), (wrap64 (x13_1 + 1)), (by first | rfl | (simp; done) | (simp only [← hji17] <;> (first | rfl | simp)) | (simp [*]; done)), (by first | rfl | (simp; done) | (simp [*]; done)), H', ⟨by have := HK1.out; omega⟩, ⟨by (with_reducible repeat (first | apply zl | apply zm | apply zk)); exact HO_11.out⟩, ⟨by (with_reducible repeat (first | refine zh ?_ _ | refine zf ?_ | refine zi ?_ _)); exact BK101.out⟩, ⟨by repeat (first | (with_reducible first | exact HB.out | apply zc | apply ze | apply zb | refine zd ?_ GE101.out) | exact HB.out)⟩⟩
      ·
       rw [if_neg c13] at H
       exact absurd H (by simp)
     ·
      rw [if_neg c12] at H
      exact absurd H (by simp)
    ·
     rw [if_neg c11] at H
     have c11b0 : decide (x13_1 < (t103.length : Int)) = false := decide_eq_false c11
     clear c11
     simp only [Option.some.injEq, Prod.mk.injEq] at H
     obtain ⟨rfl, rfl⟩ := H
     go_wp2
     go_ret2
     exact ⟨by first | rfl | (simp [errW_none, errW_some] <;> rfl) | (simp [*, errW_none, errW_some] <;> rfl), by repeat (first | (with_reducible first | exact HB.out | apply zc | apply ze | apply zb | refine zd ?_ GE101.out) | exact HB.out)⟩
 ·
  replace c3 := Bool.eq_false_iff.mpr c3
  subst c3
  have H1 : (some (0, false)) = some (r1, r2) := by rw [if_neg (show ¬ (false = true) by decide)] at H; exact H
  clear H
  have H := H1
  clear H1
  simp only [Option.some.injEq, Prod.mk.injEq] at H
  obtain ⟨rfl, rfl⟩ := H
  go_enter Try.func21, Try.ntmps21
  go_wp2_with (first | ((with_reducible refine gate_dst (N := 1) rfl ?_); refine box_event ?hg (N := 1) ?hd (cs := #[.int .i64 a0_0, .int .i64 a0_1, .slice A0_2 l0_2.length c0_2]) (t := 26) ?hr ?_; (case hd => rfl); (case hg => rfl); (case hr => first | (go_simp; done) | (go_simp; rfl)); intro gb101 hg w20 hbox hb; have n0_ := za (zv (by repeat (first | (with_reducible first | exact HB.out | apply zc | apply ze | apply zb) | exact HB.out)) hb); have n1_ := za (hbox); have n2_ := za ((by rw [hg]; exact (zn (by repeat (first | (with_reducible first | exact HB.out | apply zc | apply ze | apply zb) | exact HB.out))) : w.heap.size ≤ gb101)); have n3_ := za ((by rw [hg]; exact (zn (by repeat (first | (with_reducible first | exact HB.out | apply zc | apply ze | apply zb) | exact HB.out))) : w.heap.size ≤ gb101)); clear HB; have HB := n0_; have BK101 := n1_; have GW101 := n2_; have GE101 := n3_; clear n0_ n1_ n2_ n3_; clear hb hbox hg; have hcz21_0 : w20.cell? ⟨gb101, 0, none⟩ = some (.int .i64 a0_0) := (zg BK101.out 0).trans rfl; have hcz21_1 : w20.cell? ⟨gb101, 1, none⟩ = some (.int .i64 a0_1) := (zg BK101.out 1).trans rfl; have hcz21_2 : w20.cell? ⟨gb101, 2, none⟩ = some (.slice A0_2 l0_2.length c0_2) := (zg BK101.out 2).trans rfl; have hfz21_0 := zj BK101.out 0; have hfz21_1 := zj BK101.out 1; have hfz21_2 := zj BK101.out 2) | ((with_reducible refine zu (f := 71) rfl ?_); refine goesL_ (some 8) rfl rfl Try.func71 (by kernel_rfl) rfl #[.agg #[.int .i64 a0_0, .int .i64 a0_1, .slice A0_2 l0_2.length c0_2]] rfl (by (try simp only [List.map_toArray, List.map_cons, List.map_nil]); first | done | rfl | (simp only [List.length_drop, List.length_take]; rfl)) ?_; (with_reducible refine (impl_IsBoard.calls a0_0 a0_1 _ _ l0_2 false _ ?side1 ?side2 A2.out).mono ?_); (case side1 => repeat (first | exact (zE HR0_2.out HB.out) | (with_reducible refine zw ?_ _) | (with_reducible refine zx ?_ _) | (with_reducible refine zy ?_))); (case side2 => exact HC0_2.out); rintro e w22 ⟨rfl, hb⟩; refine ⟨_, rfl, ?_⟩; have n0_ := za (zB (g := gb101) (o := .cells #[.int .i64 a0_0, .int .i64 a0_1, .slice A0_2 l0_2.length c0_2] 26 (0, 0)) (by (with_reducible repeat (first | refine zh ?_ _ | refine zf ?_ | refine zi ?_ _)); exact BK101.out) hb); have n1_ := za (zv (by repeat (first | (with_reducible first | exact HB.out | apply zc | apply ze | apply zb | refine zd ?_ GE101.out) | exact HB.out)) hb); clear BK101 HB; have BK101 := n0_; have HB := n1_; clear n0_ n1_; (try clear hb); (try clear hb2); (try clear hk); (try clear hi)))
  go_ret2
  exact ⟨by first | rfl | (simp [errW_none, errW_some] <;> rfl) | (simp [*, errW_none, errW_some] <;> rfl), by repeat (first | (with_reducible first | exact HB.out | apply zc | apply ze | apply zb | refine zd ?_ GE101.out) | exact HB.out)⟩
end Go.Proofs.Ytgnmcfoenmfhcaa.Q
end
