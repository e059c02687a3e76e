/- Texts of this claim put together (10): words, what the functions compute, and plain facts. No conditions. -/
import Derived.Test.YtgnmcfoenmfhcaaSFnExactUselessCells4
import Derived.Lib.SortBridge
import Derived.Lib.Hide
import Derived.Test.YtgnmcfoenmfhcaaProg
import Derived.Shelf.SlSortCmp.NoneTotal
import Derived.Test.YtgnmcfoenmfhcaaSFnExactUselessCells6
import Derived.Test.YtgnmcfoenmfhcaaSFnExactUselessCells8
import Derived.Test.YtgnmcfoenmfhcaaSFnExactUselessCells9
import Derived.Deep.RegionWith
import Derived.Deep.RegionLaw
import Derived.Test.YtgnmcfoenmfhcaaSFnExactUselessCells5
section
namespace Go.Proofs.Ytgnmcfoenmfhcaa.PermS
set_option linter.unusedVariables false
open Go Go.RowKit Go.Lib Go.Sort Go.Proofs Go.Proofs.YtgnmcfoenmfhcaaW.PrintWords Go.Proofs.YtgnmcfoenmfhcaaW.PrintLast Go.Proofs.YtgnmcfoenmfhcaaW.PrintMore
theorem own_written {W : World} {e base g n cap m q : Nat} {inner ys : List Value} {os : Array Obj} (h : W.ownsRow base e 1 (.slice (some ⟨g, 0, none⟩) n cap) m inner) (hl : ys.length = inner.length) :
    (grow ((W.drewN q).setCells g 0 ys) os).ownsRow base e 1 (.slice (some ⟨g, 0, none⟩) n cap) m ys ∧ (∀ k, k < W.heap.size → k ≠ g → (grow ((W.drewN q).setCells g 0 ys) os).heap[k]? = W.heap[k]?) ∧ (grow ((W.drewN q).setCells g 0 ys) os).os = W.os ∧ (grow ((W.drewN q).setCells g 0 ys) os).tape = W.tape ∧ (grow ((W.drewN q).setCells g 0 ys) os).output = W.output ∧ W.heap.size ≤ (grow ((W.drewN q).setCells g 0 ys) os).heap.size := by
  obtain ⟨hlen, hr⟩ := h
  rcases hr with ⟨hv, _⟩ | ⟨g2, cap2, cur, hv, hbg, hg, hnc, hcm, hcs, htake⟩
  · cases hv
  · injection hv with e1 e2 e3
    injection e1 with e1
    injection e1 with e1 _ _
    subst e1
    subst e3
    have hg2 : (W.drewN q).heap[g]? = some (.cells cur e (0, 0)) := hg
    have hlc : ys.length ≤ cur.size := by
      rw [hl, ← htake, List.length_take]
      exact Nat.le_trans (Nat.min_le_right _ _) (Nat.le_of_eq (Array.length_toList))
    obtain ⟨cur', h3, h4, h5⟩ := setCells_row ys 0 (W.drewN q) cur hg2 (by omega)
    obtain ⟨s1, s2, s3, s4⟩ := setCells_same g ys 0 (W.drewN q)
    have hlt : g < ((W.drewN q).setCells g 0 ys).heap.size := blk_lt h3
    have hil : inner.length = m * 1 := hlen
    refine ⟨⟨by rw [hl]; exact hlen, .inr ⟨g, cap, cur', by rw [e2], hbg, ?_, hnc, hcm, by omega, ?_⟩⟩, fun k hk hne => ?_, s1, s2, s3, ?_⟩
    · rw [heap_grow_old _ _ hlt]; exact h3
    · rw [h5, List.take_zero, List.nil_append, List.take_append_of_le_length (by omega), List.take_of_length_le (by omega)]
    · have hk2 : k < ((W.drewN q).setCells g 0 ys).heap.size := by rw [s4]; exact hk
      rw [heap_grow_old _ _ hk2]
      exact setCells_far _ _ k hne
    · rw [size_grow, s4]
      show W.heap.size ≤ W.heap.size + os.size
      omega
section
variable {α : Type} {d : Kd α} {e base : Nat} {ok okv : Nat → Prop} {W W' : World} {v : Value} {xs : List α} {f : Nat → Nat} {inner : List Value}
theorem elem_M (hd : d.sz = 1) (hr : Reps ((Kd.tag f d).M W base ok) d.sz xs.zipIdx inner) (i : Fin xs.length) : d.M W base (fun k => ok k ∧ f k = i.val) xs[i] [inner.getD i.val (.bool false)] := by
  have hil : inner.length = xs.length := by have := hr.1; rw [List.length_zipIdx, hd, Nat.mul_one] at this; exact this
  have h := hr.2 i.val (xs[i], i.val) (Kd.zip_at (List.getElem?_eq_getElem i.isLt))
  have hl : i.val < inner.length := by rw [hil]; exact i.isLt
  rw [hd, Nat.mul_one, List.drop_eq_getElem_cons hl] at h
  have e1 : inner.getD i.val (.bool false) = inner[i.val] := by rw [List.getD_eq_getElem?_getD, List.getElem?_eq_getElem hl]; rfl
  rw [e1]
  exact h
theorem S_some (hd : d.sz = 1) (hr : Reps ((Kd.tag f d).M W base ok) d.sz xs.zipIdx inner) (hok : ∀ k, ok k → okv k ∧ some k ≠ v.ownBlock) (hm : ∀ k, ok k → k < W.heap.size → W'.heap[k]? = W.heap[k]?)
    (h0 : ∀ k, v.ownBlock = some k → okv k) (σ : List (Fin xs.length)) (hσ : σ.Nodup) (ho : W'.ownsRow base e 1 v σ.length (σ.map fun i => inner.getD i.val (.bool false))) :
    Kd.S d e W' base okv v (σ.map fun i => xs[i]) := by
  have hap : ∀ (i j k : Nat), (∃ h : i < σ.length, (okv k ∧ some k ≠ v.ownBlock) ∧ f k = σ[i].val) → (∃ h : j < σ.length, (okv k ∧ some k ≠ v.ownBlock) ∧ f k = σ[j].val) → i = j := by
    rintro i j k ⟨hi, _, e1⟩ ⟨hj, _, e2⟩
    have e3 : σ[i] = σ[j] := Fin.ext (by omega)
    have := hσ
    rw [List.Nodup, List.pairwise_iff_getElem] at this
    rcases Nat.lt_trichotomy i j with h | h | h
    · exact absurd e3 (this i j hi hj h)
    · exact h
    · exact absurd e3.symm (this j i hj hi h)
  obtain ⟨f', hf⟩ := Kd.reps_tag (d := d) (w := W') (base := base) (ok := fun k => okv k ∧ some k ≠ v.ownBlock) (xs := σ.map fun i => xs[i]) (inner := σ.map fun i => inner.getD i.val (.bool false)) (fun j k => ∃ h : j < σ.length, (okv k ∧ some k ≠ v.ownBlock) ∧ f k = σ[j].val) hap (fun j k ⟨_, h, _⟩ => h) (by rw [hd, List.length_map, List.length_map, Nat.mul_one]) (by
    intro j x hj
    rw [List.getElem?_map] at hj
    obtain ⟨i, hi, rfl⟩ := Option.map_eq_some_iff.1 hj
    have hjl : j < σ.length := (List.getElem?_eq_some_iff.1 hi).1
    have hij : σ[j] = i := (List.getElem?_eq_some_iff.1 hi).2
    have hM := elem_M hd hr i
    have hM2 := d.M_mono (fun _ hk => hk.1) (d.M_move (w1 := W') (fun k hk => hm k hk.1.1 hk.2.2.1) (d.M_bound hM))
    rw [hd, Nat.mul_one, List.drop_eq_getElem_cons (by rw [List.length_map]; exact hjl), List.take_succ_cons, List.take_zero, List.getElem_map, hij]
    exact d.M_mono (fun k hk => ⟨hjl, hok k hk.1, by rw [hij]; exact hk.2⟩) hM2)
  exact ⟨f', h0, _, by rw [List.length_zipIdx, List.length_map]; show W'.ownsRow base e d.sz v _ _; rw [hd]; exact ho, hf⟩
end
end Go.Proofs.Ytgnmcfoenmfhcaa.PermS
end
section
namespace Go.Proofs.Ytgnmcfoenmfhcaa.TimesK
set_option linter.unusedVariables false
open Go Go.RowKit Go.Proofs Go.Proofs.YtgnmcfoenmfhcaaW.PrintWords Go.Proofs.YtgnmcfoenmfhcaaW.PrintLast Go.Proofs.YtgnmcfoenmfhcaaW.PrintMore
open Go.Proofs.Ytgnmcfoenmfhcaa.PermS
theorem S_open {e1 e : Nat} {W4 : World} {base : Nat} {ok : Nat → Prop} {A0 : Option Addr} {n cap : Nat} {xs : List (List Int)} (h : Kd.S (Kd.slice e1 (Kd.int .i64)) e W4 base ok (.slice A0 n cap) xs) :
    n = xs.length ∧ ∃ (f : Nat → Nat) (inner : List Value), Reps ((Kd.tag f (Kd.slice e1 (Kd.int .i64))).M W4 base (fun k => ok k ∧ some k ≠ (Value.slice A0 n cap).ownBlock)) (Kd.slice e1 (Kd.int .i64)).sz xs.zipIdx inner ∧
      ∀ j : Fin xs.length, ∃ g A cp, A0 = some ⟨g, 0, none⟩ ∧ inner.getD j.val (.bool false) = .slice A xs[j].length cp ∧ xs[j].length ≤ cp ∧ ∀ W : World, (∀ k, ok k → k < W4.heap.size → W.heap[k]? = W4.heap[k]?) → W.cell? ⟨g, j.val, none⟩ = some (.slice A xs[j].length cp) ∧ Kd.C (Kd.int .i64) W A xs[j].length xs[j] := by
  have hn : n = xs.length := (Kd.S_reads' h).1
  subst hn
  refine ⟨rfl, ?_⟩
  have h' := h
  obtain ⟨f, h0, inner, ho, hr⟩ := h
  rw [List.length_zipIdx] at ho
  refine ⟨f, inner, hr, fun j => ?_⟩
  have hlt := j.isLt
  obtain ⟨g, cap', e0, hbg, hblk, cells, hg⟩ := Kd.S_form h' (by omega)
  injection e0 with e1 e2 e3
  subst e1
  subst e3
  have hgo : (Value.slice (some ⟨g, 0, none⟩) xs.length cap).ownBlock = some g := by simp [Value.ownBlock]
  have hsz : (Kd.slice e1 (Kd.int .i64)).sz = 1 := rfl
  have hil : inner.length = xs.length := by have := hr.1; rw [List.length_zipIdx] at this; exact this.trans (Nat.mul_one _)
  obtain ⟨v, e4, hv⟩ := elem_M hsz hr j
  have e5 : inner.getD j.val (.bool false) = v := by injection e4
  obtain ⟨A, cp, e6, hle, _⟩ := Kd.R_reads hv
  refine ⟨g, A, cp, rfl, by rw [e5, e6], hle, fun W hW => ⟨?_, ?_⟩⟩
  · have ho2 : W.ownsRow base e 1 (.slice (some ⟨g, 0, none⟩) xs.length cap) xs.length inner := own_move ho (fun k hk => hW k (h0 k hk) (by rw [hgo] at hk; injection hk with hk; omega))
    have hc := ho2.cells (g := g) hgo j.val _ (List.getElem?_eq_getElem (by omega : j.val < inner.length))
    rw [add_plain] at hc
    rw [hc]
    rw [← e6, ← e5]
    simp only [List.getD_eq_getElem?_getD, List.getElem?_eq_getElem (by omega : j.val < inner.length), Option.getD_some]
  · have h3 := Kd.R_move (w1 := W) (Kd.R_bound hv) (fun k hk => hW k hk.1.1.1 hk.2.2.1)
    rw [e6] at h3
    exact (Kd.R_reads' h3).2.2
theorem N_open {e1 e : Nat} {W4 : World} {base : Nat} {ok : Nat → Prop} {A0 : Option Addr} {n cap : Nat} {xs : List (List Int)} (h : Kd.N (Kd.slice e1 (Kd.int .i64)) e W4 base ok (.slice A0 n cap) xs) :
    n = xs.length ∧ ∀ j : Fin xs.length, ∃ g A cp, A0 = some ⟨g, 0, none⟩ ∧ xs[j].length ≤ cp ∧ ∀ W : World, (∀ k, ok k → k < W4.heap.size → W.heap[k]? = W4.heap[k]?) → W.cell? ⟨g, j.val, none⟩ = some (.slice A xs[j].length cp) ∧ Kd.C (Kd.int .i64) W A xs[j].length xs[j] := by
  have hn : n = xs.length := (Kd.N_reads' h).1
  subst hn
  refine ⟨rfl, fun j => ?_⟩
  have hlt := j.isLt
  obtain ⟨g, cap', e0, hbg, hblk, cells, hg⟩ := Kd.N_form h (by omega)
  injection e0 with e1 e2 e3
  subst e1
  subst e3
  have hgo : (Value.slice (some ⟨g, 0, none⟩) xs.length cap).ownBlock = some g := by simp [Value.ownBlock]
  have hokg : ok g := h.1 g hgo
  obtain ⟨c, hcl, hF, hcc⟩ := Kd.N_get h [] (j.val : Int) (by omega) (by omega)
  have hx : xs.getD ((j.val : Nat) : Int).toNat [] = xs[j] := by rw [Int.toNat_natCast, List.getD_eq_getElem?_getD, List.getElem?_eq_getElem hlt]; rfl
  rw [hx] at hF
  obtain ⟨A, cp, e5, hle, _⟩ := hF W4 (fun _ _ _ => rfl)
  subst e5
  have hc0 := hcc 0 _ rfl
  rw [add_plain] at hc0
  have e6 : ((j.val : Nat) : Int).toNat * (Kd.slice e1 (Kd.int .i64)).sz + 0 = j.val := by show (j.val) * 1 + 0 = j.val; omega
  rw [e6] at hc0
  refine ⟨g, A, cp, rfl, hle, fun W hW => ⟨?_, ?_⟩⟩
  · rw [← hc0]
    simp only [World.cell?, hW g hokg hblk]
  · obtain ⟨A', cp', e7, _, h8⟩ := hF W (fun k hk hlt => hW k hk.1 hlt)
    injection e7 with e7
    injection e7 with e8 e9 e10
    rw [e8]
    exact h8
theorem raw_own {e : Nat} {W : World} {base : Nat} {ok : Nat → Prop} {v : Value} {vs : List Value} (h : (Kd.raw 1).R e W base ok v (vs.map fun u => [u])) : W.ownsRow base e 1 v vs.length vs := by
  obtain ⟨_, inner, ho, hr⟩ := h
  rw [List.length_map] at ho
  have hil : inner.length = vs.length := by have := hr.1; rw [List.length_map] at this; exact this.trans (Nat.mul_one _)
  have : inner = vs := by
    apply List.ext_getElem hil
    intro j h1 h2
    have h3 := hr.2 j [vs[j]] (by rw [List.getElem?_map, List.getElem?_eq_getElem h2]; rfl)
    have h4 : (inner.drop (j * 1)).take 1 = [vs[j]] := h3.1
    rw [Nat.mul_one, List.drop_eq_getElem_cons h1, List.take_succ_cons, List.take_zero] at h4
    injection h4
  rw [this] at ho
  exact ho
structure TSt (w w4 : World) (O : Nat → Prop) (e : Nat) (v : Value) (vs : List Value) (W : World) : Prop where
  B : Below w.heap.size w W
  sz : w4.heap.size ≤ W.heap.size
  keep : ∀ k, k < w4.heap.size → ¬ O k → W.heap[k]? = w4.heap[k]?
  out : (Kd.raw 1).R e W w.heap.size O v (vs.map fun u => [u])
section
variable {w w4 W w1 : World} {O : Nat → Prop} {e : Nat} {v v1 u : Value} {vs : List Value}
theorem TSt.drewN (h : TSt w w4 O e v vs W) (n : Nat) : TSt w w4 O e v vs (W.drewN n) := ⟨pw_below_drewN h.B n, h.sz, h.keep, Kd.R_drewN h.out n⟩
theorem TSt.drew (h : TSt w w4 O e v vs W) : TSt w w4 O e v vs W.drew := h.drewN 1
theorem TSt.drawn (h : TSt w w4 O e v vs W) (hd : Drawn0 W w1) : TSt w w4 O e v vs w1 := by
  obtain ⟨n, rfl⟩ := hd
  exact h.drewN n
theorem TSt.app (h : TSt w w4 O e v vs W) (hr : (Kd.raw 1).R e w1 w.heap.size O v1 ((vs.map fun u => [u]) ++ [[u]])) (hb : Below w.heap.size w w1) (hg : W.grownBy w1 v.ownBlock) : TSt w w4 O e v1 (vs ++ [u]) w1 :=
  ⟨hb, Nat.le_trans h.sz hg.size, fun k hk hn => (hg.block k (Nat.lt_of_lt_of_le hk h.sz) (fun e => hn (h.out.1 k e.symm))).trans (h.keep k hk hn), by rw [List.map_append]; exact hr⟩
theorem TSt.done {e1 : Nat} {A0 : Option Addr} {n cap b4 : Nat} {xs : List (List Int)} {f : Nat → Nat} {inner : List Value} (hr : Reps ((Kd.tag f (Kd.slice e1 (Kd.int .i64))).M w4 b4 (fun k => (k < w4.heap.size ∧ ¬ O k) ∧ some k ≠ (Value.slice A0 n cap).ownBlock)) (Kd.slice e1 (Kd.int .i64)).sz xs.zipIdx inner) (hb : w.heap.size ≤ b4)
    (σ : List (Fin xs.length)) (hσ : σ.Nodup) (h : TSt w w4 O e v (σ.map fun i => inner.getD i.val (.bool false)) W) : Kd.S (Kd.slice e1 (Kd.int .i64)) e W w.heap.size (fun _ => True) v (σ.map fun i => xs[i]) := by
  have hr' : Reps ((Kd.tag f (Kd.slice e1 (Kd.int .i64))).M w4 w.heap.size (fun k => (k < w4.heap.size ∧ ¬ O k) ∧ some k ≠ (Value.slice A0 n cap).ownBlock)) (Kd.slice e1 (Kd.int .i64)).sz xs.zipIdx inner := ⟨hr.1, fun j p hj => (Kd.tag f (Kd.slice e1 (Kd.int .i64))).M_lower hb (hr.2 j p hj)⟩
  have ho := raw_own h.out
  rw [List.length_map] at ho
  exact S_some rfl hr' (fun k hk => ⟨trivial, fun e => hk.1.2 (h.out.1 k e.symm)⟩) (fun k hk hlt => h.keep k hk.1.1 hk.1.2) (fun _ _ => trivial) σ hσ ho
end
end Go.Proofs.Ytgnmcfoenmfhcaa.TimesK
end
section
namespace Go.Proofs.Ytgnmcfoenmfhcaa.Lay
open Go.Shelf Go.Proofs
def sortS_ren : Go.Shelf.Ren := ⟨fun | 6 => 134 | 15 => 138 | 14 => 147 | 28 => 157 | 29 => 158 | 20 => 161 | 21 => 162 | 22 => 163 | 23 => 164 | 24 => 165 | 25 => 166 | 26 => 167 | 27 => 168 | 46 => 174 | 47 => 170 | 48 => 171 | 49 => 175 | 50 => 176 | 57 => 178 | n => n, fun | 22 => 61 | 24 => 24 | 25 => 107 | 3 => 3 | 39 => 109 | 0 => 0 | 53 => 118 | 55 => 84 | 4 => 4 | 46 => 124 | 45 => 123 | 50 => 30 | 5 => 5 | 9 => 9 | 66 => 135 | 70 => 139 | 76 => 143 | 77 => 144 | n => n, fun | n => n⟩
theorem sortS : Go.Proofs.SlLaysF.n6 Try.prog sortS_ren := {
  mixed := by kernel_rfl,
  f6 := ⟨Try.f134.name, by decide, Try.func134.trans (congrArg some (by kernel_rfl))⟩,
  f14 := ⟨Try.f147.name, by decide, Try.func147.trans (congrArg some (by kernel_rfl))⟩,
  f15 := Try.func138.trans (congrArg some (by kernel_rfl)),
  f20 := ⟨Try.f161.name, by decide, Try.func161.trans (congrArg some (by kernel_rfl))⟩,
  f21 := ⟨Try.f162.name, by decide, Try.func162.trans (congrArg some (by kernel_rfl))⟩,
  f22 := ⟨Try.f163.name, by decide, Try.func163.trans (congrArg some (by kernel_rfl))⟩,
  f23 := ⟨Try.f164.name, by decide, Try.func164.trans (congrArg some (by kernel_rfl))⟩,
  f24 := ⟨Try.f165.name, by decide, Try.func165.trans (congrArg some (by kernel_rfl))⟩,
  f25 := ⟨Try.f166.name, by decide, Try.func166.trans (congrArg some (by kernel_rfl))⟩,
  f26 := ⟨Try.f167.name, by decide, Try.func167.trans (congrArg some (by kernel_rfl))⟩,
  f27 := ⟨Try.f168.name, by decide, Try.func168.trans (congrArg some (by kernel_rfl))⟩,
  f28 := Try.func157.trans (congrArg some (by kernel_rfl)),
  f29 := Try.func158.trans (congrArg some (by kernel_rfl)),
  f46 := ⟨Try.f174.name, by decide, Try.func174.trans (congrArg some (by kernel_rfl))⟩,
  f47 := Try.func170.trans (congrArg some (by kernel_rfl)),
  f48 := Try.func171.trans (congrArg some (by kernel_rfl)),
  f49 := ⟨Try.f175.name, by decide, Try.func175.trans (congrArg some (by kernel_rfl))⟩,
  f50 := ⟨Try.f176.name, by decide, Try.func176.trans (congrArg some (by kernel_rfl))⟩,
  f57 := ⟨Try.f178.name, by decide, Try.func178.trans (congrArg some (by kernel_rfl))⟩,
  t0 := Try.underlying0,
  a0 := Try.isAgg0,
  z0 := Try.sizeOf0,
  v0 := Try.zeroValue0,
  t3 := Try.underlying3,
  a3 := Try.isAgg3,
  z3 := Try.sizeOf3,
  v3 := Try.zeroValue3,
  t4 := Try.underlying4,
  a4 := Try.isAgg4,
  z4 := Try.sizeOf4,
  v4 := Try.zeroValue4,
  t5 := Try.underlying5,
  a5 := Try.isAgg5,
  z5 := Try.sizeOf5,
  v5 := Try.zeroValue5,
  t9 := Try.underlying9,
  a9 := Try.isAgg9,
  z9 := Try.sizeOf9,
  v9 := Try.zeroValue9,
  t22 := Try.underlying61,
  a22 := Try.isAgg61,
  z22 := Try.sizeOf61,
  v22 := Try.zeroValue61,
  a24 := Try.isAgg24,
  z24 := Try.sizeOf24,
  t25 := Try.underlying107,
  a25 := Try.isAgg107,
  z25 := Try.sizeOf107,
  v25 := Try.zeroValue107,
  t39 := Try.underlying109,
  a39 := Try.isAgg109,
  z39 := Try.sizeOf109,
  v39 := Try.zeroValue109,
  t45 := Try.underlying123,
  a45 := Try.isAgg123,
  z45 := Try.sizeOf123,
  v45 := Try.zeroValue123,
  t46 := Try.underlying124,
  a46 := Try.isAgg124,
  z46 := Try.sizeOf124,
  v46 := Try.zeroValue124,
  t50 := Try.underlying30,
  a50 := Try.isAgg30,
  z50 := Try.sizeOf30,
  v50 := Try.zeroValue30,
  t53 := Try.underlying118,
  a53 := Try.isAgg118,
  z53 := Try.sizeOf118,
  v53 := Try.zeroValue118,
  t55 := Try.underlying84,
  a55 := Try.isAgg84,
  z55 := Try.sizeOf84,
  v55 := Try.zeroValue84,
  t66 := Try.underlying135,
  a66 := Try.isAgg135,
  z66 := Try.sizeOf135,
  v66 := Try.zeroValue135,
  t70 := Try.underlying139,
  a70 := Try.isAgg139,
  z70 := Try.sizeOf139,
  v70 := Try.zeroValue139,
  t76 := Try.underlying143,
  a76 := Try.isAgg143,
  z76 := Try.sizeOf143,
  v76 := Try.zeroValue143,
  t77 := Try.underlying144,
  a77 := Try.isAgg144,
  z77 := Try.sizeOf144,
  v77 := Try.zeroValue144 }
end Go.Proofs.Ytgnmcfoenmfhcaa.Lay
end
section
namespace Go.Proofs.Ytgnmcfoenmfhcaa.BehindK
set_option linter.unusedVariables false
open Go Go.Shelf Go.RowKit Go.Lib Go.Sort Go.Proofs Go.Proofs.Ytgnmcfoenmfhcaa.Q Go.Proofs.YtgnmcfoenmfhcaaW.PrintWords Go.Proofs.YtgnmcfoenmfhcaaW.PrintLast Go.Proofs.YtgnmcfoenmfhcaaW.PrintMore
open Go.Proofs.YtgnmcfoenmfhcaaL Go.Proofs.Ytgnmcfoenmfhcaa.LawK Go.Proofs.Ytgnmcfoenmfhcaa.AllK
theorem behind_1 {c : Int} (h : okC c = true) : impl_behind_1.f c = some ((key c : Nat) : Int) := by
  have := of_decide_eq_true h
  unfold impl_behind_1.f key
  by_cases e : c = -1
  · rw [if_pos e, if_pos e]; rfl
  · rw [if_neg e, if_neg e, Int.toNat_of_nonneg (by omega)]
theorem behind_l0 {a b : List Int} (hl : a.length = b.length) (h6 : a.length ≤ 6) (ha : a.all okC = true) (hb : b.all okC = true) : ∀ (d i : Nat), i + d = a.length → Ev (fun k => impl_behind.l0 k a b (a.length : Int) i) (cmpB (a.drop i) (b.drop i))
  | 0, i, hi => by
    rw [List.drop_of_length_le (by omega), List.drop_of_length_le (by omega)]
    refine Ev.step (f := fun _ => some 0) (fun k => ?_) (Ev.now _)
    rw [impl_behind.l0, if_neg (by omega)]
  | d + 1, i, hi => by
    have h1 : wrap64 ((i : Int) + 1) = ((i + 1 : Nat) : Int) := by rw [w64 (by omega) (by omega)]; rfl
    have hi1 : i < a.length := by omega
    have hi2 : i < b.length := by omega
    have hoa := List.all_eq_true.1 ha _ (List.getElem_mem hi1)
    have hob := List.all_eq_true.1 hb _ (List.getElem_mem hi2)
    have hka := key_lt hoa
    have hkb := key_lt hob
    rw [List.drop_eq_getElem_cons hi1, List.drop_eq_getElem_cons hi2, cmpB]
    by_cases e : a[i] = b[i]
    · rw [if_pos e]
      refine Ev.step (fun k => ?_) (behind_l0 hl h6 ha hb d (i + 1) (by omega))
      rw [impl_behind.l0, if_pos (by omega), if_pos (by omega), if_pos (by omega), if_pos (by omega), rd_lt _ _ hi1, rd_lt _ _ hi2, if_pos e, h1]
    · rw [if_neg e]
      refine Ev.step (f := fun _ => some ((key a[i] : Int) - key b[i])) (fun k => ?_) (Ev.now _)
      rw [impl_behind.l0, if_pos (by omega), if_pos (by omega), if_pos (by omega), if_pos (by omega), rd_lt _ _ hi1, rd_lt _ _ hi2, if_neg e, behind_1 hoa, behind_1 hob, Option.bind_some, Option.bind_some, w64 (by omega) (by omega)]
theorem behind {a b : List Int} (hl : a.length = b.length) (h6 : a.length ≤ 6) (ha : a.all okC = true) (hb : b.all okC = true) : Ev (fun k => impl_behind.f k a b) (cmpB a b) := by
  have := behind_l0 hl h6 ha hb a.length 0 (by omega)
  exact this
def sortOk (l : List (List Int)) : Bool := decide (1 ≤ l.length) && decide (l.length ≤ 1000000) && decide l.Nodup && l.all (fun x => decide (x.length = (l.headD []).length) && decide (x.length ≤ 6) && x.all okC)
structure SortOk (l : List (List Int)) : Prop where
  one : 1 ≤ l.length
  many : l.length ≤ 1000000
  nd : l.Nodup
  row : ∀ x ∈ l, x.length = (l.headD []).length ∧ x.length ≤ 6 ∧ x.all okC = true
theorem sortOk_iff {l : List (List Int)} : sortOk l = true ↔ SortOk l := by
  unfold sortOk
  simp only [Bool.and_eq_true, decide_eq_true_eq, List.all_eq_true]
  constructor
  · rintro ⟨⟨⟨h1, h2⟩, h3⟩, h4⟩
    exact ⟨h1, h2, h3, fun x hx => ⟨(h4 x hx).1.1, (h4 x hx).1.2, List.all_eq_true.2 (h4 x hx).2⟩⟩
  · rintro ⟨h1, h2, h3, h4⟩
    exact ⟨⟨⟨h1, h2⟩, h3⟩, fun x hx => ⟨⟨(h4 x hx).1, (h4 x hx).2.1⟩, List.all_eq_true.1 (h4 x hx).2.2⟩⟩
section
variable {l : List (List Int)} (h : SortOk l)
def cfB (l : List (List Int)) (x y : Fin l.length) : Int := cmpB l[x] l[y]
include h
theorem ltB (x y : Fin l.length) : ltOf (cfB l) x y = decide (rankB l[x] < rankB l[y]) := by
  have hx := h.row l[x] (List.getElem_mem x.isLt)
  have hy := h.row l[y] (List.getElem_mem y.isLt)
  exact decide_eq_decide.2 (cmp_lt (by omega) hx.2.2 hy.2.2)
theorem swoB : SWO (ltOf (cfB l)) where
  irrefl x := by rw [ltB h]; simp
  trans x y z h1 h2 := by rw [ltB h] at *; simp at *; omega
  ntrans x y z h1 h2 := by rw [ltB h] at *; simp at *; omega
theorem totB (x y : Fin l.length) (h1 : ltOf (cfB l) x y = false) (h2 : ltOf (cfB l) y x = false) : x = y := by
  rw [ltB h] at h1 h2
  simp only [decide_eq_false_iff_not] at h1 h2
  have hx := h.row l[x] (List.getElem_mem x.isLt)
  have hy := h.row l[y] (List.getElem_mem y.isLt)
  have e := rank_inj (s := l[x]) (t := l[y]) (by omega) hx.2.2 hy.2.2 (by omega)
  have hn := h.nd
  rw [List.Nodup, List.pairwise_iff_getElem] at hn
  rcases Nat.lt_trichotomy x.val y.val with h3 | h3 | h3
  · exact absurd e (hn x.val y.val x.isLt y.isLt h3)
  · exact Fin.ext h3
  · exact absurd e.symm (hn y.val x.val y.isLt x.isLt h3)
theorem sorted_map : ((List.finRange l.length).mergeSort fun x y => !(ltOf (cfB l)) y x).map (fun i => l[i]) = sortB l := by
  have h1 := List.map_mergeSort (r := fun x y => !(ltOf (cfB l)) y x) (s := fun a b => decide (rankB a ≤ rankB b)) (f := fun i : Fin l.length => l[i]) (l := List.finRange l.length) (by
    intro a _ b _
    rw [ltB h]
    by_cases c : rankB l[b] < rankB l[a]
    · rw [decide_eq_true c, decide_eq_false (by omega)]; rfl
    · rw [decide_eq_false c, decide_eq_true (by omega)]; rfl)
  rw [h1]
  unfold sortB
  congr 1
  apply List.ext_getElem
  · simp
  · intro i h1 h2
    simp
end
end Go.Proofs.Ytgnmcfoenmfhcaa.BehindK
namespace Go.Proofs.Ytgnmcfoenmfhcaa.Q
set_option linter.unusedVariables false
open Go Go.Shelf Go.RowKit Go.Lib Go.Sort Go.Proofs Go.Proofs.YtgnmcfoenmfhcaaW.PrintWords Go.Proofs.YtgnmcfoenmfhcaaW.PrintLast Go.Proofs.YtgnmcfoenmfhcaaW.PrintMore
open Go.Proofs.Ytgnmcfoenmfhcaa.AllK Go.Proofs.Ytgnmcfoenmfhcaa.BehindK Go.Proofs.Ytgnmcfoenmfhcaa.PermS
def slices_SortFunc_int_int__at_impl_behind.f (l0 : List (List Int)) : Option (List (List Int)) := if sortOk l0 = true then some (sortB l0) else none
set_option maxHeartbeats 4000000 in
set_option maxRecDepth 100000 in
theorem slices_SortFunc_int_int__at_impl_behind.calls (P0_ : Nat → Prop) (u9000_ : Value) (l0 : List (List Int)) (r : List (List Int)) (w0 w : World) (hB : Below w0.heap.size w0 w) (ho0 : Kd.S (Kd.slice 3 (Kd.int .i64)) 24 w w0.heap.size P0_ u9000_ l0) (h : slices_SortFunc_int_int__at_impl_behind.f l0 = some r) :
    Calls Try.prog 134 #[u9000_, .func (.func 135) #[] #[]] w fun e w' => e = .returned (.tuple #[]) ∧ Kd.S (Kd.slice 3 (Kd.int .i64)) 24 w' w0.heap.size (fun k_ => (P0_ k_ ∨ w.heap.size ≤ k_)) u9000_ r ∧ Below w0.heap.size w0 w' ∧ Kept w w' (fun k_ => P0_ k_) := by
  unfold slices_SortFunc_int_int__at_impl_behind.f at h
  by_cases c : sortOk l0 = true
  rotate_left
  · rw [if_neg c] at h; cases h
  rw [if_pos c] at h
  obtain rfl := Option.some.inj h
  have hS := sortOk_iff.1 c
  have h1 := hS.one
  have h2 := hS.many
  obtain ⟨g, cap, rfl, hbg, hblk, cells, hg⟩ := Kd.S_form ho0 (by omega)
  obtain ⟨f, h0, inner, ho, hr⟩ := ho0
  have hgo : (Value.slice (some ⟨g, 0, none⟩) l0.length cap).ownBlock = some g := by simp [Value.ownBlock]
  have hP : P0_ g := h0 g hgo
  rw [List.length_zipIdx] at ho
  have hsz : (Kd.slice 3 (Kd.int .i64)).sz = 1 := rfl
  have hsz' : (Kd.tag f (Kd.slice 3 (Kd.int .i64))).sz = 1 := rfl
  rw [hsz'] at ho
  have hil : inner.length = l0.length := by have := hr.1; rw [List.length_zipIdx] at this; exact this.trans (Nat.mul_one _)
  haveI : Inhabited (Fin l0.length) := ⟨⟨0, h1⟩⟩
  obtain ⟨enc, henc⟩ : ∃ enc : Fin l0.length → Value, enc = fun i => inner.getD i.val (.bool false) := ⟨_, rfl⟩
  have hM : ∀ i : Fin l0.length, ∃ A cp, enc i = .slice A l0[i].length cp ∧ l0[i].length ≤ cp ∧ ∀ W : World, (∀ k, k ≠ g → k < w.heap.size → W.heap[k]? = w.heap[k]?) → Kd.C (Kd.int .i64) W A l0[i].length l0[i] := by
    intro i
    obtain ⟨v, e1, hv⟩ := elem_M hsz hr i
    have e2 : enc i = v := by rw [henc]; injection e1
    obtain ⟨A, cp, e3, hle, _⟩ := Kd.R_reads hv
    refine ⟨A, cp, by rw [e2, e3], hle, fun W hW => ?_⟩
    have h3 := Kd.R_move (w1 := W) (Kd.R_bound hv) (fun k hk => hW k (fun e => hk.1.1.2 (by rw [e]; exact hgo.symm)) hk.2.2.1)
    rw [e3] at h3
    exact (Kd.R_reads' h3).2.2
  have eg : ∀ args w, (callFunc 135 args).run Try.prog w = .ok (.enter 135 args) w := enters_of Try.func135 (by kernel_rfl) rfl
  have hsize : (List.finRange l0.length).toArray.size = l0.length := by simp
  have h1c : OneCell enc := fun i => by obtain ⟨A, cp, e, _⟩ := hM i; rw [e]; rfl
  have hH : Holds enc w g 0 (List.finRange l0.length).toArray := by
    intro j hj
    rw [hsize] at hj
    have e1 : (List.finRange l0.length).toArray[j]! = ⟨j, hj⟩ := by simp [hj]
    rw [e1, Nat.zero_add]
    refine ⟨?_, blk_frozen hg j⟩
    have hc := ho.cells (g := g) hgo j _ (List.getElem?_eq_getElem (by omega : j < inner.length))
    rw [add_plain] at hc
    rw [hc, henc]
    simp only [List.getD_eq_getElem?_getD, List.getElem?_eq_getElem (by omega : j < inner.length), Option.getD_some]
  have far : ∀ (q : Nat) (ys : List (Fin l0.length)) (os : Array Obj), ys.length = l0.length → _ := fun q ys os hl => own_written (W := w) (q := q) (ys := ys.map enc) (os := os) ho (by rw [List.length_map, hl, hil])
  have hcmp : CmpLays1 Try.prog 135 #[] enc (cfB l0) g 0 (List.finRange l0.length).toArray.size w := by
    intro m os dk hdk x y
    rw [hsize] at hdk
    have hdl : dk.toList.length = l0.length := by rw [Array.length_toList]; exact hdk
    have hsw : sortWorld enc w g 0 m dk os = grow ((w.drewN m).setCells g 0 (dk.toList.map enc)) os := by
      unfold sortWorld
      have := Lib.sorted_world enc w g 0 m (List.finRange l0.length).toArray dk.toList os hH (by rw [hsize, hdl])
      rw [← this, Array.toArray_toList]
    obtain ⟨_, F2, _⟩ := far m dk.toList os hdl
    rw [hsw]
    obtain ⟨A, cp, ex, hlx, hCx⟩ := hM x
    obtain ⟨A', cp', ey, hly, hCy⟩ := hM y
    rw [ex, ey]
    have hx := hS.row l0[x] (List.getElem_mem x.isLt)
    have hy := hS.row l0[y] (List.getElem_mem y.isLt)
    obtain ⟨k, hk⟩ := (behind (a := l0[x]) (b := l0[y]) (by omega) hx.2.1 hx.2.2 hy.2.2).rounds
    refine (impl_behind.calls k A cp l0[x] A' cp' l0[y] _ _ (hCx _ (fun k hne hlt => F2 k hlt hne)) hlx (hCy _ (fun k hne hlt => F2 k hlt hne)) hly hk).mono ?_
    rintro e w' ⟨rfl, ⟨q, rfl⟩⟩
    exact ⟨rfl, q, #[], (grow_empty _).symm⟩
  have hT := Any.slices_SortFunc_total Lay.sortS enc h1c (cfB l0) (swoB hS) 135 #[] g 0 cap (List.finRange l0.length).toArray w eg hcmp hH hblk (by rw [hsize]; omega) (totB hS)
  rw [hsize] at hT
  change Calls Try.prog 134 _ _ _ at hT
  refine hT.mono ?_
  rintro e w' ⟨rfl, n, os, rfl⟩
  obtain ⟨σ, hσ⟩ : ∃ σ, σ = (List.finRange l0.length).mergeSort fun x y => !(ltOf (cfB l0)) y x := ⟨_, rfl⟩
  have hσp : σ.Perm (List.finRange l0.length) := by rw [hσ]; exact List.mergeSort_perm _ _
  have hσl : σ.length = l0.length := by rw [hσp.length_eq]; simp
  have hσn : σ.Nodup := hσp.nodup_iff.2 (List.nodup_finRange _)
  have hsw : sortWorld enc w g 0 n ((List.finRange l0.length).toArray.toList.mergeSort fun x y => !(ltOf (cfB l0)) y x).toArray os = grow ((w.drewN n).setCells g 0 (σ.map enc)) os := by
    unfold sortWorld
    rw [← Lib.sorted_world enc w g 0 n (List.finRange l0.length).toArray σ os hH (by rw [hsize, hσl]), hσ]
  rw [hsw]
  obtain ⟨F1, F2, F3, F4, F5, F6⟩ := far n σ os hσl
  refine ⟨rfl, ?_, ⟨F3.trans hB.os, F4.trans hB.tape, F5.trans hB.output, Nat.le_trans hB.size F6, fun k hk => ?_⟩, ⟨F6, fun i hi hn => F2 i hi (fun he => hn (he ▸ hP))⟩⟩
  · rw [← sorted_map hS, ← hσ]
    refine Kd.S_mono (S_some (okv := P0_) (W' := grow ((w.drewN n).setCells g 0 (σ.map enc)) os) hsz hr (fun k hk => hk) (fun k hk hlt => F2 k hlt (fun e => hk.2 (by rw [e]; exact hgo.symm))) h0 σ hσn ?_) (fun _ h => .inl h)
    rw [hσl]
    rw [henc] at F1
    rw [henc]
    exact F1
  · have hk2 : k < w.heap.size := Nat.lt_of_lt_of_le hk hB.size
    rw [F2 k hk2 (by omega)]
    exact hB.block k hk
end Go.Proofs.Ytgnmcfoenmfhcaa.Q
end
section
namespace Go.Proofs.Ytgnmcfoenmfhcaa.Q
set_option linter.unusedVariables false
open Go.RowKit Go.Proofs.YtgnmcfoenmfhcaaW.PrintWords Go.Proofs.YtgnmcfoenmfhcaaW.PrintLast Go.Proofs.YtgnmcfoenmfhcaaW.PrintMore
open Go.Proofs.YtgnmcfoenmfhcaaL Go.Proofs.Ytgnmcfoenmfhcaa.LawK Go.Proofs.Ytgnmcfoenmfhcaa.BoardK Go.Proofs.Ytgnmcfoenmfhcaa.Walk Go.Proofs.Ytgnmcfoenmfhcaa.MostK Go.Proofs.Ytgnmcfoenmfhcaa.AllK Go.Proofs.Ytgnmcfoenmfhcaa.BehindK
def impl_Board_largest.f (a0_0 : Int) (a0_1 : Int) (l0_2 : List Int) : Option (List (List Int)) := if isBoardB a0_0 a0_1 l0_2 = true then some (largestS l0_2 a0_1.toNat l0_2.length) else none
theorem withs_perm {l : List Int} {C R : Nat} (hC : C ≤ 6) (m : Nat) : (withs (m : Int) (waysFrom l C R 0 0 [])).Perm (allS l C R 0 0 [] m) := by
  have h := all_perm (l := l) hC R 0 0 [] m
  have e : withs (m : Int) (waysFrom l C R 0 0 []) = (waysFrom l C R 0 0 []).filter (fun p => decide (rooksN p = rooksN [] + m)) := by
    unfold withs
    apply List.filter_congr
    intro p _
    have h0 : rooksN [] = 0 := rfl
    exact decide_eq_decide.2 (by omega)
  rw [e]
  exact h
theorem withs_ok {l : List Int} {C R : Nat} (hC : C ≤ 6) (hR : R ≤ 6) : SortOk (withs ((mostN l C R 0 0 : Nat) : Int) (waysFrom l C R 0 0 [])) := by
  have hp := withs_perm (l := l) (R := R) hC (mostN l C R 0 0)
  have hrow : ∀ x ∈ withs ((mostN l C R 0 0 : Nat) : Int) (waysFrom l C R 0 0 []), x.length = R ∧ x.all okC = true := fun x hx => largest_row hC x (hp.mem_iff.1 hx)
  have hlen := hp.length_eq
  have hl2 := largest_len (l := l) hC hR
  unfold largestS at hl2
  have hne : 1 ≤ (withs ((mostN l C R 0 0 : Nat) : Int) (waysFrom l C R 0 0 [])).length := by
    rw [hlen]
    exact List.length_pos_iff.2 (largest_ne hC R)
  refine ⟨hne, by omega, hp.nodup_iff.2 (largest_nodup hC R), fun x hx => ?_⟩
  have h1 := hrow x hx
  refine ⟨?_, by omega, h1.2⟩
  cases e : withs ((mostN l C R 0 0 : Nat) : Int) (waysFrom l C R 0 0 []) with
  | nil => rw [e] at hx; cases hx
  | cons y t =>
    have h2 := hrow y (by rw [e]; simp)
    rw [List.headD_cons]
    omega
set_option maxHeartbeats 8000000 in
set_option maxRecDepth 100000 in
theorem impl_Board_largest.calls (a0_0 a0_1 : Int) (A0_2 : Option Addr) (c0_2 : Nat) (l0_2 : List Int) (r : List (List Int)) (w : World) (hr0_2 : Kd.C (Kd.int .i64) w A0_2 l0_2.length l0_2) (hc0_2 : l0_2.length ≤ c0_2) (h : impl_Board_largest.f a0_0 a0_1 l0_2 = some r) :
    Calls Try.prog 107 #[.agg #[.int .i64 a0_0, .int .i64 a0_1, .slice A0_2 l0_2.length c0_2]] w fun e w' => ∃ v0_ : Value, e = .returned (v0_) ∧ Kd.S (Kd.slice 3 (Kd.int .i64)) 24 w' w.heap.size (fun _ => True) v0_ r ∧ Below w.heap.size w w' := by
  by_cases hs : isBoardB a0_0 a0_1 l0_2 = true
  rotate_left
  · rw [impl_Board_largest.f, if_neg hs] at h; cases h
  rw [impl_Board_largest.f, if_pos hs] at h
  have h := Option.some.inj h
  obtain ⟨R, C, rfl, rfl, hlR, h1R, hR, h1C, hC, hbits⟩ := board_of hs
  rw [Int.toNat_natCast, hlR] at h
  obtain ⟨k, hk⟩ := (most hs).rounds
  have hW : impl_Board_with.f R C l0_2 ((mostN l0_2 C R 0 0 : Nat) : Int) = some (withs ((mostN l0_2 C R 0 0 : Nat) : Int) (waysFrom l0_2 C R 0 0 [])) := by rw [impl_Board_with.f, if_pos hs, Int.toNat_natCast, hlR]
  have hF : slices_SortFunc_int_int__at_impl_behind.f (withs ((mostN l0_2 C R 0 0 : Nat) : Int) (waysFrom l0_2 C R 0 0 [])) = some r := by
    rw [slices_SortFunc_int_int__at_impl_behind.f, if_pos (sortOk_iff.2 (withs_ok hC hR)), sortB_all hC (withs_perm hC _), ← h]
    rfl
  have CM := Lib.hid (fun (W : World) (hb : Below w.heap.size w W) => impl_Board_most.calls k R C A0_2 c0_2 l0_2 _ W (Kd.C_below hr0_2 hb) hc0_2 hk)
  have CW := Lib.hid (fun (W : World) (hb : Below w.heap.size w W) => impl_Board_with.calls R C A0_2 c0_2 l0_2 _ _ W (Kd.C_below hr0_2 hb) hc0_2 hW)
  have CS := Lib.hid (fun (u : Value) (W : World) (hb : Below w.heap.size w W) ho => slices_SortFunc_int_int__at_impl_behind.calls (fun _ => True) u _ _ w W hb ho hF)
  clear h hs hlR h1R hR h1C hC hbits hr0_2 hc0_2 hk hW hF
  generalize ((mostN l0_2 C R 0 0 : Nat) : Int) = MI at *
  generalize withs MI (waysFrom l0_2 C R 0 0 []) = rows at *
  generalize (R : Int) = RI at *
  generalize (C : Int) = CI at *
  have hu24 := Try.underlying26
  go_enter Try.func107, Try.ntmps107
  go_wp2_with ((with_reducible refine gate_dst (N := 1) rfl ?_); refine box_event ?hg (N := 1) ?hd (cs := #[.int .i64 RI, .int .i64 CI, .slice A0_2 l0_2.length c0_2]) (t := 26) ?hr ?_; (case hd => rfl); (case hg => rfl); (case hr => first | (go_simp; done) | (go_simp; rfl)); intro gb hg w1 hbox hb; have G1 := Aside0.mk hg; have K1 := Aside0.mk hbox; have B1 := Aside0.mk hb; clear hg hbox hb; have z5 : w1.cell? ⟨gb, 0, none⟩ = some (.int .i64 RI) := (blk_cell K1.out 0).trans rfl; have z6 : w1.cell? ⟨gb, 1, none⟩ = some (.int .i64 CI) := (blk_cell K1.out 1).trans rfl; have z7 : w1.cell? ⟨gb, 2, none⟩ = some (.slice A0_2 l0_2.length c0_2) := (blk_cell K1.out 2).trans rfl)
  go_region_with (first
    | (go_at_call 80; (refine (CM.out _ ?sB).mono ?_); (case sB => repeat (first | exact B1.out | apply below_drew1 | apply pw_below_drewN)); rintro e w2 ⟨rfl, hb2⟩; have D2 := Aside0.mk (Below.trans (show Below w1.heap.size w1 _ from by repeat (first | exact Below.refl _ _ | apply below_drew1 | apply pw_below_drewN)) (hb2.mono (Nat.le_refl _))); have B2 := Aside0.mk (B1.out.trans (D2.out.mono B1.out.size)); clear hb2; have y5 : w2.cell? ⟨gb, 0, none⟩ = some (.int .i64 RI) := (blk_cell (blk_below K1.out D2.out) 0).trans rfl; have y6 : w2.cell? ⟨gb, 1, none⟩ = some (.int .i64 CI) := (blk_cell (blk_below K1.out D2.out) 1).trans rfl; have y7 : w2.cell? ⟨gb, 2, none⟩ = some (.slice A0_2 l0_2.length c0_2) := (blk_cell (blk_below K1.out D2.out) 2).trans rfl)
    | (go_at_call 133; (refine (CW.out _ ?sB).mono ?_); (case sB => repeat (first | exact B2.out | apply below_drew1 | apply pw_below_drewN)); rintro e w3 ⟨v3, rfl, ho3, hb3⟩; have B3 := Aside0.mk (Below.trans (show Below w.heap.size w _ from by repeat (first | exact B2.out | apply below_drew1 | apply pw_below_drewN)) (hb3.mono (by have := B2.out.size; exact this))); have O3 := Aside0.mk (Kd.S_lower ho3 (show w.heap.size ≤ _ from by have := B2.out.size; exact this)); obtain ⟨A3, c3, hv3⟩ := Kd.S_slice ho3; subst hv3; clear hb3 ho3))
  all_goals go_wp2_with (go_at_call 134; (refine (CS.out _ _ ?sB ?sO).mono ?_); (case sB => repeat (first | exact B3.out | apply below_drew1 | apply pw_below_drewN)); (case sO => (with_reducible repeat (first | apply Kd.S_alloc | apply Kd.S_drewN | apply Kd.S_drew)); exact O3.out); rintro e w4 ⟨rfl, ho4, hb4, hk4⟩; have O4 := Aside0.mk ho4; have B4 := Aside0.mk hb4; clear ho4 hb4 hk4)
  all_goals go_ret
  all_goals exact ⟨_, rfl, Kd.S_mono O4.out (fun _ _ => trivial), B4.out⟩
end Go.Proofs.Ytgnmcfoenmfhcaa.Q
end
section
namespace Go.Proofs.Ytgnmcfoenmfhcaa.Q
set_option linter.unusedVariables false
set_option linter.unusedSectionVars false
open Go.RowKit Go.Proofs.YtgnmcfoenmfhcaaW.PrintWords Go.Proofs.YtgnmcfoenmfhcaaW.PrintLast Go.Proofs.YtgnmcfoenmfhcaaW.PrintMore
open Go.Proofs.YtgnmcfoenmfhcaaL Go.Proofs.Ytgnmcfoenmfhcaa.LawK Go.Proofs.Ytgnmcfoenmfhcaa.BoardK Go.Proofs.Ytgnmcfoenmfhcaa.LinesK Go.Proofs.Ytgnmcfoenmfhcaa.AllK Go.Proofs.Ytgnmcfoenmfhcaa.TimesK
def impl_Board_byLargest_at_impl_UselessCells_1.f (a0_0 : Int) (a0_1 : Int) (l0_2 : List Int) : Option (List (List Int)) := if isBoardB a0_0 a0_1 l0_2 = true then some ((cellsS l0_2 a0_1.toNat 0 l0_2.length).filter (fun x => times_none (times (largestS l0_2 a0_1.toNat l0_2.length) x : Int) ((largestS l0_2 a0_1.toNat l0_2.length).length : Int))) else none
set_option maxHeartbeats 16000000 in
set_option maxRecDepth 100000 in
theorem impl_Board_byLargest_at_impl_UselessCells_1.calls (a0_0 a0_1 : Int) (A0_2 : Option Addr) (c0_2 : Nat) (l0_2 : List Int) (r : List (List Int)) (w : World) (hr0_2 : Kd.C (Kd.int .i64) w A0_2 l0_2.length l0_2) (hc0_2 : l0_2.length ≤ c0_2) (h : impl_Board_byLargest_at_impl_UselessCells_1.f a0_0 a0_1 l0_2 = some r) :
    Calls Try.prog 109 #[.agg #[.int .i64 a0_0, .int .i64 a0_1, .slice A0_2 l0_2.length c0_2], .func (.func 111) #[] #[]] w fun e w' => ∃ v0_ : Value, e = .returned (v0_) ∧ Kd.S (Kd.slice 3 (Kd.int .i64)) 24 w' w.heap.size (fun _ => True) v0_ r ∧ Below w.heap.size w w' := by
  by_cases hs : isBoardB a0_0 a0_1 l0_2 = true
  rotate_left
  · rw [impl_Board_byLargest_at_impl_UselessCells_1.f, if_neg hs] at h; cases h
  rw [impl_Board_byLargest_at_impl_UselessCells_1.f, if_pos hs] at h
  have h := Option.some.inj h
  obtain ⟨R, C, rfl, rfl, hlR, h1R, hR, h1C, hC, hbits⟩ := board_of hs
  rw [Int.toNat_natCast, hlR] at h
  have hb64 : ∀ i (hi : i < l0_2.length), 0 ≤ l0_2[i] ∧ l0_2[i] < 64 := fun i hi => ⟨(hbits i hi).1, by have := (hbits i hi).2; have h3 := two_pow_six hC; omega⟩
  have hLl := largest_len (l := l0_2) hC hR
  have hLr : ∀ p ∈ largestS l0_2 C R, p.length = R := fun p hp => (largest_row hC p hp).1
  have hCf : ∀ x ∈ cellsS l0_2 C 0 R, ∃ r c : Nat, x = [(r : Int), (c : Int)] ∧ r < R := fun x hx => cellsS_form hx
  have hCl : (cellsS l0_2 C 0 R).length ≤ 36 := Nat.le_trans (cellsS_len l0_2 hC R 0) (by omega)
  have hLf : impl_Board_largest.f R C l0_2 = some (largestS l0_2 C R) := by rw [impl_Board_largest.f, if_pos hs, Int.toNat_natCast, hlR]
  obtain ⟨kc, hkc⟩ := (cellsOf hs).rounds
  have CL := Lib.hid (fun (W : World) (hb : Below w.heap.size w W) => impl_Board_largest.calls R C A0_2 c0_2 l0_2 _ W (Kd.C_below hr0_2 hb) hc0_2 hLf)
  have CC := Lib.hid (fun (W : World) (hb : Below w.heap.size w W) => impl_CellsOf.calls kc R C A0_2 c0_2 l0_2 _ _ W (Kd.C_below hr0_2 hb) hc0_2 hkc)
  clear hLf hkc
  generalize largestS l0_2 C R = L at *
  generalize cellsS l0_2 C 0 R = Cs at *
  have HLL := Aside0.mk hLl
  have HLR := Lib.hid hLr
  have HCF := Lib.hid hCf
  have HCL := Aside0.mk hCl
  have HR6 := Aside0.mk hR
  have HF := Aside0.mk h
  clear h hs hlR h1R h1C hC hbits hb64 hr0_2 hc0_2 hLl hLr hCf hCl hR
  obtain ⟨RI, hRI⟩ : ∃ RI : Int, RI = (R : Int) := ⟨_, rfl⟩
  obtain ⟨CI, hCI⟩ : ∃ CI : Int, CI = (C : Int) := ⟨_, rfl⟩
  rw [← hRI, ← hCI] at CL CC
  rw [← hRI, ← hCI]
  clear hRI hCI
  have hu24 := Try.underlying26
  go_enter Try.func109, Try.ntmps109
  go_wp2_with (first
    | ((with_reducible refine gate_dst (N := 2) rfl ?_); refine box_event ?hg (N := 2) ?hd (cs := #[.int .i64 RI, .int .i64 CI, .slice A0_2 l0_2.length c0_2]) (t := 26) ?hr ?_; (case hd => rfl); (case hg => rfl); (case hr => first | (go_simp; done) | (go_simp; rfl)); intro gb hg w1 hbox hb; have K1 := Aside0.mk hbox; have B1 := Aside0.mk hb; clear hg hbox hb; have zw10 : w1.cell? ⟨gb, 0, none⟩ = some (.int .i64 RI) := (blk_cell K1.out 0).trans rfl; have zw11 : w1.cell? ⟨gb, 1, none⟩ = some (.int .i64 CI) := (blk_cell K1.out 1).trans rfl; have zw12 : w1.cell? ⟨gb, 2, none⟩ = some (.slice A0_2 l0_2.length c0_2) := (blk_cell K1.out 2).trans rfl)
    | (go_at_call 107; (refine (CL.out _ ?sB).mono ?_); (case sB => exact (by repeat (first | (with_reducible first | exact B1.out | apply below_alloc | apply pw_below_drewN | apply below_drew1) | exact B1.out))); rintro e w2 ⟨v5, rfl, ho, hb⟩; obtain ⟨A5, c5, rfl⟩ := Kd.S_slice ho; have K2 := Aside0.mk (blk_below (by (with_reducible repeat (first | refine blk_drewN ?_ _ | refine blk_drew ?_ | refine blk_alloc ?_ _)); exact K1.out) hb); have B2 := Aside0.mk (below_step (by repeat (first | (with_reducible first | exact B1.out | apply below_alloc | apply pw_below_drewN | apply below_drew1) | exact B1.out)) hb); have O5 := Aside0.mk (Kd.S_mono (Kd.S_bound ho) (ok' := fun k => w.heap.size ≤ k ∧ k < w2.heap.size) (fun k hk => ⟨Nat.le_trans B1.out.size (by have := hk.2.1; exact this), hk.2.2.1⟩)); have O5b := Aside0.mk (Kd.S_lower O5.out (show w.heap.size ≤ _ from B1.out.size)); clear O5 ho hb; have zw20 : w2.cell? ⟨gb, 0, none⟩ = some (.int .i64 RI) := (blk_cell K2.out 0).trans rfl; have zw21 : w2.cell? ⟨gb, 1, none⟩ = some (.int .i64 CI) := (blk_cell K2.out 1).trans rfl; have zw22 : w2.cell? ⟨gb, 2, none⟩ = some (.slice A0_2 l0_2.length c0_2) := (blk_cell K2.out 2).trans rfl)
    | ((with_reducible refine gate_dst (N := 16) rfl ?_); refine Kd.R_lit (Kd.raw 1) _ 24 ?hg (N := 16) ?hd (xs := ([] : List (List Value))) (inner := []) (ok := fun _ => True) (okp := fun _ => True) ?hr ?hp (fun _ hk => hk) trivial (Below.refl _ _) (Nat.le_refl _) (by simp) ?_; (case hd => rfl); (case hg => rfl); (case hr => first | (go_simp; done) | (go_simp; rfl)); (case hp => exact (Reps.none _ _)); intro v6 w3 ho hb hg_ hnew_; clear hg_ hnew_; obtain ⟨A6, c6, hv6⟩ := Kd.R_slice ho; have hv6' : v6 = .slice A6 0 c6 := hv6; clear hv6; subst hv6'; have K3 := Aside0.mk (blk_below (by (with_reducible repeat (first | refine blk_drewN ?_ _ | refine blk_drew ?_ | refine blk_alloc ?_ _)); exact K2.out) hb); have B3 := Aside0.mk (below_step (by repeat (first | (with_reducible first | exact B2.out | apply below_alloc | apply pw_below_drewN | apply below_drew1) | exact B2.out)) hb); have O6 := Aside0.mk ho; have O5 := Aside0.mk (Kd.S_below (by (with_reducible repeat (first | apply Kd.S_alloc | apply Kd.S_drewN | apply Kd.S_drew)); exact O5b.out) hb); have Z3 := Aside0.mk (show w2.heap.size ≤ w3.heap.size from hb.size); have N6 := Aside0.mk (show ∀ k, (Value.slice A6 0 c6).ownBlock = some k → w2.heap.size ≤ k ∧ k < w3.heap.size from fun k hk => ⟨Kd.R_base ho k hk, Kd.R_lt ho k hk⟩); clear ho hb O5b; have zw30 : w3.cell? ⟨gb, 0, none⟩ = some (.int .i64 RI) := (blk_cell K3.out 0).trans rfl; have zw31 : w3.cell? ⟨gb, 1, none⟩ = some (.int .i64 CI) := (blk_cell K3.out 1).trans rfl; have zw32 : w3.cell? ⟨gb, 2, none⟩ = some (.slice A0_2 l0_2.length c0_2) := (blk_cell K3.out 2).trans rfl)
    | (go_at_call 136; (refine (CC.out _ ?sB).mono ?_); (case sB => exact (by repeat (first | (with_reducible first | exact B3.out | apply below_alloc | apply pw_below_drewN | apply below_drew1) | exact B3.out))); rintro e w4 ⟨v7, rfl, ho, hb⟩; obtain ⟨A7, c7, rfl⟩ := Kd.S_slice ho; have B4 := Aside0.mk (below_step (by repeat (first | (with_reducible first | exact B3.out | apply below_alloc | apply pw_below_drewN | apply below_drew1) | exact B3.out)) hb); have O7 := Aside0.mk (Kd.S_mono (Kd.S_bound ho) (ok' := fun k => w3.heap.size ≤ k ∧ k < w4.heap.size) (fun k hk => ⟨hk.2.1, hk.2.2.1⟩)); have O5_ := Aside0.mk (Kd.S_below (by (with_reducible repeat (first | apply Kd.S_alloc | apply Kd.S_drewN | apply Kd.S_drew)); exact O5.out) hb); have O6_ := Aside0.mk (Kd.R_below (by (with_reducible repeat (first | apply Kd.R_alloc | apply Kd.R_drewN | apply Kd.R_drew)); exact O6.out) hb); have Z4 := Aside0.mk (show w3.heap.size ≤ w4.heap.size from hb.size); clear ho hb O5 O6))
  obtain ⟨O, hO⟩ : ∃ O : Nat → Prop, O = fun k => (Value.slice A6 0 c6).ownBlock = some k ∨ w4.heap.size ≤ k := ⟨_, rfl⟩
  have HOn := Lib.hid (show ∀ k, w4.heap.size ≤ k → O k from fun k hk => by rw [hO]; exact .inr hk)
  obtain ⟨hn5, f5, inner5, hr5, hv5⟩ := S_open O5_.out
  obtain ⟨hn7, f7, inner7, hr7, hv7⟩ := S_open (Kd.S_mono O7.out (ok' := fun k => k < w4.heap.size ∧ ¬ O k) (fun k hk => ⟨hk.2, by rw [hO]; rintro (h | h); exact absurd (N6.out k h) (by omega); omega⟩))
  have hk5 : ∀ k, (w.heap.size ≤ k ∧ k < w2.heap.size) → k < w4.heap.size ∧ ¬ O k := fun k hk => ⟨by have := Z3.out; have := Z4.out; omega, by rw [hO]; rintro (h | h); exact absurd (N6.out k h) (by omega); have := Z3.out; have := Z4.out; omega⟩
  have ST0 : TSt w w4 O 24 (.slice A6 0 c6) ([] : List Value) w4 := ⟨B4.out, Nat.le_refl _, fun _ _ _ => rfl, Kd.R_mono (Kd.R_tight rfl (Kd.R_lower O6_.out (show w.heap.size ≤ _ from B2.out.size))) (fun k hk => by rw [hO]; exact .inl hk.symm)⟩
  have V5 := Lib.hid (show ∀ j : Fin L.length, ∃ g A cp, A5 = some ⟨g, 0, none⟩ ∧ L[j].length ≤ cp ∧ ∀ W v vs, TSt w w4 O 24 v vs W → W.cell? ⟨g, j.val, none⟩ = some (.slice A L[j].length cp) ∧ Kd.C (Kd.int .i64) W A L[j].length L[j] from fun j => by
    obtain ⟨g, A, cp, h1, _, h3, h4⟩ := hv5 j
    exact ⟨g, A, cp, h1, h3, fun W v vs hT => h4 W (fun k hk _ => hT.keep k (hk5 k hk).1 (hk5 k hk).2)⟩)
  have V7 := Lib.hid (show ∀ j : Fin Cs.length, ∃ g A cp, A7 = some ⟨g, 0, none⟩ ∧ inner7.getD j.val (.bool false) = .slice A Cs[j].length cp ∧ Cs[j].length ≤ cp ∧ ∀ W v vs, TSt w w4 O 24 v vs W → W.cell? ⟨g, j.val, none⟩ = some (.slice A Cs[j].length cp) ∧ Kd.C (Kd.int .i64) W A Cs[j].length Cs[j] from fun j => by
    obtain ⟨g, A, cp, h1, h2, h3, h4⟩ := hv7 j
    exact ⟨g, A, cp, h1, h2, h3, fun W v vs hT => h4 W (fun k hk _ => hT.keep k hk.1 hk.2)⟩)
  have HE := Lib.hid (fun (W : World) (v : Value) (σ : List (Fin Cs.length)) (hσ : σ.Nodup) (hT : TSt w w4 O 24 v (σ.map fun i => inner7.getD i.val (.bool false)) W) => TSt.done hr7 (show w.heap.size ≤ _ from B3.out.size) σ hσ hT)
  have H0 := Aside0.mk ST0
  have HW := Aside0.mk (show w.heap.size ≤ w4.heap.size from B4.out.size)
  clear ST0 hn5 hr5 hv5 hn7 hr7 hv7 hk5 O5_ O6_ O7 N6 Z3 Z4 hO B2 B3 B4 K1 K2 K3 B1
  go_loopg [6, 24] Cs.length (fun kq v6 v24 w' => ∃ (i : Nat) (σ : List (Fin Cs.length)) (Av : Option Addr) (cv : Nat), v24 = .int .i64 (i : Int) ∧ v6 = .slice Av σ.length cv ∧ Aside0 (i + kq = Cs.length ∧ σ.length ≤ i) ∧ Aside0 (σ = ((List.finRange Cs.length).take i).filter (fun j => times_none (times L Cs[j] : Int) (L.length : Int))) ∧ Aside0 (TSt w w4 O 24 (.slice Av σ.length cv) (σ.map fun i => inner7.getD i.val (.bool false)) w'))
  case atStart => exact ⟨0, [], _, _, rfl, rfl, ⟨by omega, by simp⟩, ⟨by simp⟩, H0⟩
  case round =>
    clear H0
    obtain ⟨i, σ, Av, cv, rfl, rfl, HI, HP, HT⟩ := hrel
    by_cases hlt : i < Cs.length
    · cases gk with
      | zero => exact absurd HI.out.1 (by omega)
      | succ k1 =>
        obtain ⟨gC, AX, cX, rfl, eX, hleX, hX⟩ := V7.out ⟨i, hlt⟩
        obtain ⟨r0, c0, ex, hrR⟩ := HCF.out Cs[i] (List.getElem_mem hlt)
        have exl : Cs[i].length = 2 := by rw [ex]; rfl
        change inner7.getD i (.bool false) = .slice AX Cs[i].length cX at eX
        change Cs[i].length ≤ cX at hleX
        change ∀ W v vs, TSt w w4 O 24 v vs W → W.cell? ⟨gC, i, none⟩ = some (.slice AX Cs[i].length cX) ∧ Kd.C (Kd.int .i64) W AX Cs[i].length Cs[i] at hX
        rw [exl] at eX hX
        rw [ex] at hX
        have hcX := (hX wr _ _ HT.out).1
        have HX := Lib.hid (fun W v vs hT => (hX W v vs hT).2)
        have HRR := Aside0.mk hrR
        have EX := Aside0.mk eX
        have EC := Aside0.mk (show ∀ h : i < Cs.length, Cs[i]'h = [(r0 : Int), (c0 : Int)] from fun _ => ex)
        have p1 : decide ((i : Int) < (Cs.length : Int)) = true := decide_eq_true (by omega)
        have p1n : decide (i < Cs.length) = true := decide_eq_true (by omega)
        have p2 := eq_true (show (0 : Int) ≤ (i : Int) by omega)
        have p3 := eq_true (show (i : Int) < (Cs.length : Int) by omega)
        have HW1 := Aside0.mk (show wrap64 ((i : Int) + 1) = ((i + 1 : Nat) : Int) by have := HCL.out; rw [w64 (by omega) (by omega)]; rfl)
        have HLT := Aside0.mk hlt
        clear exl eX ex hleX hX hrR
        clear hlt
        go_wp2
        go_loopg [11, 30] L.length (fun kq v11 v30 w' => ∃ n j : Nat, v30 = .int .i64 (j : Int) ∧ v11 = .int .i64 (n : Int) ∧ Aside0 (j + kq = L.length ∧ n ≤ j ∧ n + (L.drop j).countP (fun p => p.getD r0 0 == (c0 : Int)) = times L [(r0 : Int), (c0 : Int)]) ∧ Aside0 (TSt w w4 O 24 (.slice Av σ.length cv) (σ.map fun i => inner7.getD i.val (.bool false)) w'))
        case atStart => exact ⟨0, 0, rfl, rfl, ⟨by omega, by omega, by rw [List.drop_zero, Nat.zero_add]; rfl⟩, ⟨(by (with_reducible repeat (first | refine TSt.drewN ?_ _ | refine TSt.drew ?_)); exact HT.out)⟩⟩
        case round =>
          clear HT hcX p1 p1n p2 p3
          obtain ⟨n, j, rfl, rfl, HJ, HT⟩ := hrel
          by_cases hlt : j < L.length
          · cases gk with
            | zero => exact absurd HJ.out.1 (by omega)
            | succ k2 =>
              obtain ⟨gL, AP, cP, rfl, hleP, hP⟩ := V5.out ⟨j, hlt⟩
              change ∀ W v vs, TSt w w4 O 24 v vs W → W.cell? ⟨gL, j, none⟩ = some (.slice AP L[j].length cP) ∧ Kd.C (Kd.int .i64) W AP L[j].length L[j] at hP
              have hlR : L[j].length = R := HLR.out _ (List.getElem_mem hlt)
              obtain ⟨pr, hpr⟩ : ∃ pr, pr = L[j] := ⟨_, rfl⟩
              rw [← hpr] at hP hlR
              rw [hlR] at hP
              obtain ⟨hcP, hCP⟩ := hP _ _ _ HT.out
              have hCX := HX.out _ _ _ HT.out
              obtain ⟨adx, rfl, hx0⟩ := Kd.at_int hCX 0 (by omega) (by decide)
              obtain ⟨adx', ex', hx1⟩ := Kd.at_int hCX 1 (by omega) (by decide)
              injection ex' with ex'
              subst ex'
              have hrR := HRR.out
              obtain ⟨adp, rfl, hp0⟩ := Kd.at_int (show Kd.C (Kd.int .i64) wr AP pr.length pr from by rw [hlR]; exact hCP) (r0 : Int) (by omega) (by omega)
              have er : rd pr (r0 : Int) = pr.getD r0 0 := by unfold rd; rw [Int.toNat_natCast]
              obtain ⟨y, hy⟩ : ∃ y, y = pr.getD r0 0 := ⟨_, rfl⟩
              rw [er, ← hy] at hp0
              replace hx0 : wr.cell? (adx.add (0 : Int).toNat) = some (.int .i64 (r0 : Int)) := hx0
              replace hx1 : wr.cell? (adx.add (1 : Int).toNat) = some (.int .i64 (c0 : Int)) := hx1
              have hx0b : wr.cell? adx = some (.int .i64 (r0 : Int)) := by rw [show adx.add (0 : Int).toNat = adx from by cases adx; rfl] at hx0; exact hx0
              have hx1b : wr.cell? { block := adx.block, off := adx.off + 1 } = some (.int .i64 (c0 : Int)) := hx1
              have hp0b : wr.cell? (adp.add r0) = some (.int .i64 y) := by rw [Int.toNat_natCast] at hp0; exact hp0
              have q1 : decide ((j : Int) < (L.length : Int)) = true := decide_eq_true (by omega)
              have q1n : decide (j < L.length) = true := decide_eq_true (by omega)
              have q2 := eq_true (show (0 : Int) ≤ (j : Int) by omega)
              have q3 := eq_true (show (j : Int) < (L.length : Int) by omega)
              have q4 := eq_true (show (0 : Int) ≤ (r0 : Int) by omega)
              have q5 := eq_true (show (r0 : Int) < (R : Int) by omega)
              have HW2 := Aside0.mk (show wrap64 ((j : Int) + 1) = ((j + 1 : Nat) : Int) by have := HLL.out; rw [w64 (by omega) (by omega)]; rfl)
              have HW3 := Aside0.mk (show wrap64 ((n : Int) + 1) = ((n + 1 : Nat) : Int) by have := HLL.out; have := HJ.out.2.1; rw [w64 (by omega) (by omega)]; rfl)
              have HJ2 := Aside0.mk (show j + 1 + k2 = L.length ∧ n ≤ j ∧ n + ((L.drop (j + 1)).countP (fun p => p.getD r0 0 == (c0 : Int)) + if (y == (c0 : Int)) = true then 1 else 0) = times L [(r0 : Int), (c0 : Int)] from by
                obtain ⟨h1, h2, h3⟩ := HJ.out
                rw [List.drop_eq_getElem_cons hlt, List.countP_cons, ← hpr, ← hy] at h3
                exact ⟨by omega, h2, h3⟩)
              clear HJ hlt hleP hP hlR hCP hCX hrR er hpr hy
              by_cases c7 : (y == (c0 : Int)) = true
              · go_wp2
                go_quiet (fail)
                go_wp2
                go_roundg k2
                case measure => omega
                case rel =>
                  refine ⟨n + 1, j + 1, (by first | exact congrArg (Value.int .i64) HW2.out | (rw [HW2.out]; done) | (rw [HW2.out]; rfl)), (by first | exact congrArg (Value.int .i64) HW3.out | (rw [HW3.out]; done) | (rw [HW3.out]; rfl)), ⟨by have := HJ2.out; omega, by have := HJ2.out; omega, by have := HJ2.out.2.2; rw [if_pos c7] at this; omega⟩, ⟨(by (with_reducible repeat (first | refine TSt.drewN ?_ _ | refine TSt.drew ?_)); exact HT.out)⟩⟩
              · replace c7 : (y == (c0 : Int)) = false := Bool.eq_false_iff.2 c7
                go_wp2
                go_quiet (fail)
                go_wp2
                go_roundg k2
                case measure => omega
                case rel =>
                  refine ⟨n, j + 1, (by first | exact congrArg (Value.int .i64) HW2.out | (rw [HW2.out]; done) | (rw [HW2.out]; rfl)), rfl, ⟨by have := HJ2.out; omega, by have := HJ2.out; omega, by have := HJ2.out.2.2; rw [c7] at this; simpa using this⟩, ⟨(by (with_reducible repeat (first | refine TSt.drewN ?_ _ | refine TSt.drew ?_)); exact HT.out)⟩⟩
          · have q1 : decide ((j : Int) < (L.length : Int)) = false := decide_eq_false (by omega)
            have q1n : decide (j < L.length) = false := decide_eq_false (by omega)
            have HN := Aside0.mk (show n = times L [(r0 : Int), (c0 : Int)] from by
              obtain ⟨h1, h2, h3⟩ := HJ.out
              rw [List.drop_of_length_le (by omega)] at h3
              simpa using h3)
            have HG := Aside0.mk (show ((List.finRange Cs.length).take (i + 1)).filter (fun j => times_none (times L Cs[j] : Int) (L.length : Int)) = σ ++ if (times_none (n : Int) (L.length : Int)) = true then [⟨i, HLT.out⟩] else [] from by
              rw [List.take_succ_eq_append_getElem (by simp; exact HLT.out), List.filter_append, ← HP.out, List.filter_cons, List.filter_nil]
              rw [HN.out]
              simp only [List.getElem_finRange, Fin.cast_mk]
              rw [show times L (Cs[(⟨i, HLT.out⟩ : Fin Cs.length)]) = times L [(r0 : Int), (c0 : Int)] from congrArg (times L) (EC.out HLT.out)])
            clear hlt HJ
            by_cases c8 : (times_none (n : Int) (L.length : Int)) = true
            · have c9 : ((n : Int) == 0) = true := c8
              go_wp2_with (first
                | (go_at_call 111; (refine (impl_UselessCells_1.calls (n : Int) (L.length : Int) true _ ?sF).mono ?_); (case sF => rw [impl_UselessCells_1.f]; exact congrArg some c9); rintro e wt ⟨rfl, hd⟩; have HT_ := Aside0.mk (TSt.drawn (by (with_reducible repeat (first | refine TSt.drewN ?_ _ | refine TSt.drew ?_)); exact HT.out) hd); clear HT; have HT := HT_; clear HT_; clear hd)
                | ((with_reducible refine gate_builtin (b := .append) (xs := #[.tmp 52, .tmp 54]) rfl ?_); at_builtin; refine Kd.R_append (Kd.raw 1) (w0 := w) w.heap.size rfl (.tmp 52) (.tmp 54) 61 24 (.slice none 0 0) 24 rfl Try.underlying61 info24 rfl (by decide) (by omega) (.slice Av σ.length cv) ((σ.map fun i => inner7.getD i.val (.bool false)).map fun u => [u]) [.slice AX 2 cX] [.slice AX 2 cX] O (fun _ => False) rfl rfl ?aP (fun k_ hk_ => hk_.elim) ?aF ?aO ?aB ?aS ?aL ?_; (case aP => exact ⟨rfl, rfl, fun u hu => by rw [List.mem_singleton.1 hu]; rfl⟩); (case aF => exact (fun k hk => HOn.out k (Nat.le_trans HT.out.sz hk))); (case aO => refine TSt.out (w4 := w4) (vs := (σ.map fun i => inner7.getD i.val (.bool false))) ?_; (with_reducible repeat (first | refine TSt.drewN ?_ _ | refine TSt.drew ?_)); exact HT.out); (case aB => refine TSt.B (w4 := w4) (O := O) (e := 24) (v := .slice Av σ.length cv) (vs := (σ.map fun i => inner7.getD i.val (.bool false))) ?_; (with_reducible repeat (first | refine TSt.drewN ?_ _ | refine TSt.drew ?_)); exact HT.out); (case aS => have := HT.out.B.size; exact this); (case aL => have := HI.out.2; have := HCL.out; have := HLT.out; (try simp only [List.length_map]); omega); intro v9 w9 ho hb hg hat; obtain ⟨A9, c9_, hv9⟩ := Kd.R_slice ho; have hv9' : v9 = .slice A9 (σ.length + 1) c9_ := (by rw [hv9]; first | done | (simp; done) | rfl); clear hv9; subst hv9'; have HT9 := Aside0.mk (TSt.app (u := .slice AX 2 cX) (w4 := w4) (vs := (σ.map fun i => inner7.getD i.val (.bool false))) (by (with_reducible repeat (first | refine TSt.drewN ?_ _ | refine TSt.drew ?_)); exact HT.out) ho hb hg); clear ho hb hg hat))
              go_roundg k1
              case measure => omega
              case rel =>
                refine ⟨i + 1, σ ++ [⟨i, HLT.out⟩], A9, c9_, (by first | exact congrArg (Value.int .i64) HW1.out | (rw [HW1.out]; done) | (rw [HW1.out]; rfl)), (by rw [List.length_append, List.length_singleton]), ⟨by have := HI.out; omega, by rw [List.length_append, List.length_singleton]; have := HI.out; omega⟩, ⟨by rw [HG.out, if_pos c8]⟩, ⟨?_⟩⟩
                have HU := HT9.out
                rw [← EX.out] at HU
                rw [List.map_append, List.length_append, List.length_singleton]
                exact (by (with_reducible repeat (first | refine TSt.drewN ?_ _ | refine TSt.drew ?_)); exact HU)
            · have c9 : ((n : Int) == 0) = false := Bool.eq_false_iff.2 c8
              go_wp2_with (first
                | (go_at_call 111; (refine (impl_UselessCells_1.calls (n : Int) (L.length : Int) false _ ?sF).mono ?_); (case sF => rw [impl_UselessCells_1.f]; exact congrArg some c9); rintro e wt ⟨rfl, hd⟩; have HT_ := Aside0.mk (TSt.drawn (by (with_reducible repeat (first | refine TSt.drewN ?_ _ | refine TSt.drew ?_)); exact HT.out) hd); clear HT; have HT := HT_; clear HT_; clear hd))
              go_roundg k1
              case measure => omega
              case rel => exact ⟨i + 1, σ, Av, cv, (by first | exact congrArg (Value.int .i64) HW1.out | (rw [HW1.out]; done) | (rw [HW1.out]; rfl)), rfl, ⟨by have := HI.out; omega, by have := HI.out; omega⟩, ⟨by rw [HG.out, if_neg c8, List.append_nil]⟩, ⟨(by (with_reducible repeat (first | refine TSt.drewN ?_ _ | refine TSt.drew ?_)); exact HT.out)⟩⟩
    · have p1 : decide ((i : Int) < (Cs.length : Int)) = false := decide_eq_false (by omega)
      have p1n : decide (i < Cs.length) = false := decide_eq_false (by omega)
      have HG := Aside0.mk (show σ = (List.finRange Cs.length).filter (fun j => times_none (times L Cs[j] : Int) (L.length : Int)) from by
        rw [HP.out, List.take_of_length_le (by simp; omega)])
      have HQ := Aside0.mk (show σ.map (fun i => Cs[i]) = r from by
        rw [HG.out, ← HF.out]; exact filter_fin (fun x => times_none (times L x : Int) (L.length : Int)) Cs)
      have HD := Aside0.mk (show σ.Nodup from by rw [HG.out]; exact (List.nodup_finRange _).filter _)
      clear hlt
      go_wp2
      go_ret
      have HU := HE.out _ _ σ HD.out HT.out
      rw [HQ.out] at HU
      exact ⟨_, rfl, HU, HT.out.B⟩
end Go.Proofs.Ytgnmcfoenmfhcaa.Q
end
section
namespace Go.Proofs.Ytgnmcfoenmfhcaa.Q
open Go.RowKit Go.Proofs.YtgnmcfoenmfhcaaW.PrintWords Go.Proofs.YtgnmcfoenmfhcaaW.PrintLast Go.Proofs.YtgnmcfoenmfhcaaW.PrintMore
attribute [local go_sem] max2_int min2_int max_two min_two max_three min_three max_four min_four   -- for this text's walks alone
set_option linter.unusedVariables false
set_option linter.unusedSimpArgs false
def impl_UselessCells.f (a0_0 : Int) (a0_1 : Int) (l0_2 : List Int) : Option ((List (List Int)) × Bool) := (impl_IsBoard.f a0_0 a0_1 l0_2).bind fun t102 => (if t102 = true then ((impl_Board_byLargest_at_impl_UselessCells_1.f a0_0 a0_1 l0_2).bind fun t103 => (some (t103, true))) else (some (([] : List (List Int)), false)))
set_option maxHeartbeats 8000000 in
set_option maxRecDepth 100000 in
theorem impl_UselessCells.calls (a0_0 : Int) (a0_1 : Int) (A0_2 : Option Addr) (c0_2 : Nat) (l0_2 : List Int) (r1 : List (List Int)) (r2 : Bool) (w : World) (hr0_2 : Kd.C (Kd.int .i64) w A0_2 l0_2.length l0_2) (hc0_2 : l0_2.length ≤ c0_2) (h : impl_UselessCells.f a0_0 a0_1 l0_2 = some (r1, r2)) :
    Calls Try.prog 60 #[.agg #[.int .i64 a0_0, .int .i64 a0_1, .slice A0_2 l0_2.length c0_2]] w fun e w' => ∃ v0_ : Value, e = .returned (.tuple #[v0_, .bool r2]) ∧ Kd.S (Kd.slice 3 (Kd.int .i64)) 24 w' w.heap.size (fun _ => True) v0_ r1 ∧ Below w.heap.size w w' := by
  have hu26 := Try.underlying26
  have HR0_2 := Aside0.mk hr0_2
  have HC0_2 := Aside0.mk hc0_2
  clear hr0_2 hc0_2
  have HB := Aside0.mk (Below.refl w.heap.size w)
  have H : ((impl_IsBoard.f a0_0 a0_1 l0_2).bind fun t102 => (if t102 = true then ((impl_Board_byLargest_at_impl_UselessCells_1.f a0_0 a0_1 l0_2).bind fun t103 => (some (t103, true))) else (some (([] : List (List Int)), false)))) = some (r1, r2) := h
  clear h
  replace H := Option.bind_eq_some_iff.mp H
  obtain ⟨t102, A20, H⟩ := H
  replace H : (if t102 = true then ((impl_Board_byLargest_at_impl_UselessCells_1.f a0_0 a0_1 l0_2).bind fun t103 => (some (t103, true))) else (some (([] : List (List Int)), false))) = some (r1, r2) := H
  have A2 := Aside0.mk A20
  clear A20
  by_cases c3 : t102 = true
  · subst c3
    have H1 : ((impl_Board_byLargest_at_impl_UselessCells_1.f a0_0 a0_1 l0_2).bind fun t103 => (some (t103, true))) = some (r1, r2) := by rw [if_pos rfl] at H; exact H
    clear H
    have H := H1
    clear H1
    replace H := Option.bind_eq_some_iff.mp H
    obtain ⟨t103, A40, H⟩ := H
    replace H : (some (t103, true)) = some (r1, r2) := H
    have A4 := Aside0.mk A40
    clear A40
    simp only [Option.some.injEq, Prod.mk.injEq] at H
    obtain ⟨rfl, rfl⟩ := H
    go_enter Try.func60, Try.ntmps60
    go_wp2_with (first | ((with_reducible refine gate_dst (N := 1) rfl ?_); refine box_event ?hg (N := 1) ?hd (cs := #[.int .i64 a0_0, .int .i64 a0_1, .slice A0_2 l0_2.length c0_2]) (t := 26) ?hr ?_; (case hd => rfl); (case hg => rfl); (case hr => first | (go_simp; done) | (go_simp; rfl)); intro gb101 hg w5 hbox hb; have n0_ := Aside0.mk (below_step (by repeat (first | (with_reducible first | exact HB.out | apply below_alloc | apply pw_below_drewN | apply below_drew1) | exact HB.out)) hb); have n1_ := Aside0.mk (hbox); have n2_ := Aside0.mk ((by rw [hg]; exact (below_size (by repeat (first | (with_reducible first | exact HB.out | apply below_alloc | apply pw_below_drewN | apply below_drew1) | exact HB.out))) : w.heap.size ≤ gb101)); have n3_ := Aside0.mk ((by rw [hg]; exact (below_size (by repeat (first | (with_reducible first | exact HB.out | apply below_alloc | apply pw_below_drewN | apply below_drew1) | exact HB.out))) : w.heap.size ≤ gb101)); clear HB; have HB := n0_; have BK101 := n1_; have GW101 := n2_; have GE101 := n3_; clear n0_ n1_ n2_ n3_; clear hb hbox hg; have hcz6_0 : w5.cell? ⟨gb101, 0, none⟩ = some (.int .i64 a0_0) := (blk_cell BK101.out 0).trans rfl; have hcz6_1 : w5.cell? ⟨gb101, 1, none⟩ = some (.int .i64 a0_1) := (blk_cell BK101.out 1).trans rfl; have hcz6_2 : w5.cell? ⟨gb101, 2, none⟩ = some (.slice A0_2 l0_2.length c0_2) := (blk_cell BK101.out 2).trans rfl; have hfz6_0 := blk_frozen BK101.out 0; have hfz6_1 := blk_frozen BK101.out 1; have hfz6_2 := blk_frozen BK101.out 2) | ((with_reducible refine gate_callee (f := 71) rfl ?_); refine goesL_ (some 5) rfl rfl Try.func71 (by kernel_rfl) rfl #[.agg #[.int .i64 a0_0, .int .i64 a0_1, .slice A0_2 l0_2.length c0_2]] rfl (by (try simp only [List.map_toArray, List.map_cons, List.map_nil]); first | done | rfl | (simp only [List.length_drop, List.length_take]; rfl)) ?_; (with_reducible refine (impl_IsBoard.calls a0_0 a0_1 _ _ l0_2 true _ ?side1 ?side2 A2.out).mono ?_); (case side1 => repeat (first | exact (Kd.C_below HR0_2.out HB.out) | (with_reducible refine Kd.C_alloc ?_ _) | (with_reducible refine Kd.C_drewN ?_ _) | (with_reducible refine Kd.C_drew ?_))); (case side2 => exact HC0_2.out); rintro e w7 ⟨rfl, hb⟩; refine ⟨_, rfl, ?_⟩; have n0_ := Aside0.mk (blk_below (g := gb101) (o := .cells #[.int .i64 a0_0, .int .i64 a0_1, .slice A0_2 l0_2.length c0_2] 26 (0, 0)) (by (with_reducible repeat (first | refine blk_drewN ?_ _ | refine blk_drew ?_ | refine blk_alloc ?_ _)); exact BK101.out) hb); have n1_ := Aside0.mk (below_step (by repeat (first | (with_reducible first | exact HB.out | apply below_alloc | apply pw_below_drewN | apply below_drew1 | refine below_set ?_ GE101.out) | exact HB.out)) hb); clear BK101; clear HB; have BK101 := n0_; have HB := n1_; clear n0_ n1_; (try clear hb); (try clear hb2); (try clear hk); (try clear hi); have hcz8_0 : w7.cell? ⟨gb101, 0, none⟩ = some (.int .i64 a0_0) := (blk_cell BK101.out 0).trans rfl; have hcz8_1 : w7.cell? ⟨gb101, 1, none⟩ = some (.int .i64 a0_1) := (blk_cell BK101.out 1).trans rfl; have hcz8_2 : w7.cell? ⟨gb101, 2, none⟩ = some (.slice A0_2 l0_2.length c0_2) := (blk_cell BK101.out 2).trans rfl; have hfz8_0 := blk_frozen BK101.out 0; have hfz8_1 := blk_frozen BK101.out 1; have hfz8_2 := blk_frozen BK101.out 2) | ((with_reducible refine gate_callee (f := 109) rfl ?_); refine goesL_ (some 8) rfl rfl Try.func109 (by kernel_rfl) rfl #[.agg #[.int .i64 a0_0, .int .i64 a0_1, .slice A0_2 l0_2.length c0_2], .func (.func 111) #[] #[]] rfl (by (try simp only [List.map_toArray, List.map_cons, List.map_nil]); first | done | rfl | (simp only [List.length_drop, List.length_take]; rfl)) ?_; (with_reducible refine (impl_Board_byLargest_at_impl_UselessCells_1.calls a0_0 a0_1 _ _ l0_2  t103 _ ?side1 ?side2 A4.out).mono ?_); (case side1 => repeat (first | exact (Kd.C_below HR0_2.out HB.out) | (with_reducible refine Kd.C_alloc ?_ _) | (with_reducible refine Kd.C_drewN ?_ _) | (with_reducible refine Kd.C_drew ?_))); (case side2 => exact HC0_2.out); rintro e w9 ⟨v104, rfl, ho0, hb⟩; refine ⟨_, rfl, ?_⟩; have n0_ := Aside0.mk (Kd.S_lower ho0 (below_size (by repeat (first | (with_reducible first | exact HB.out | apply below_alloc | apply pw_below_drewN | apply below_drew1 | refine below_set ?_ GE101.out) | exact HB.out)))); have n1_ := Aside0.mk (blk_below (g := gb101) (o := .cells #[.int .i64 a0_0, .int .i64 a0_1, .slice A0_2 l0_2.length c0_2] 26 (0, 0)) (by (with_reducible repeat (first | refine blk_drewN ?_ _ | refine blk_drew ?_ | refine blk_alloc ?_ _)); exact BK101.out) hb); have n2_ := Aside0.mk (below_step (by repeat (first | (with_reducible first | exact HB.out | apply below_alloc | apply pw_below_drewN | apply below_drew1 | refine below_set ?_ GE101.out) | exact HB.out)) hb); clear BK101; clear HB; have HO105 := n0_; have BK101 := n1_; have HB := n2_; clear n0_ n1_ n2_; (try clear hb); (try clear hb2); (try clear hk); (try clear hi); (try clear ho0)))
    go_ret2
    exact ⟨_, by first | rfl | (simp [errW_none, errW_some] <;> rfl) | (simp [*, errW_none, errW_some] <;> rfl), by (with_reducible repeat (first | apply Kd.S_alloc | apply Kd.S_drewN | apply Kd.S_drew)); exact HO105.out, by repeat (first | (with_reducible first | exact HB.out | apply below_alloc | apply pw_below_drewN | apply below_drew1 | refine below_set ?_ GE101.out) | exact HB.out)⟩
  · replace c3 := Bool.eq_false_iff.mpr c3
    subst c3
    have H1 : (some (([] : List (List Int)), false)) = some (r1, r2) := by rw [if_neg (show ¬ (false = true) by decide)] at H; exact H
    clear H
    have H := H1
    clear H1
    simp only [Option.some.injEq, Prod.mk.injEq] at H
    obtain ⟨rfl, rfl⟩ := H
    go_enter Try.func60, Try.ntmps60
    go_wp2_with (first | ((with_reducible refine gate_dst (N := 1) rfl ?_); refine box_event ?hg (N := 1) ?hd (cs := #[.int .i64 a0_0, .int .i64 a0_1, .slice A0_2 l0_2.length c0_2]) (t := 26) ?hr ?_; (case hd => rfl); (case hg => rfl); (case hr => first | (go_simp; done) | (go_simp; rfl)); intro gb101 hg w10 hbox hb; have n0_ := Aside0.mk (below_step (by repeat (first | (with_reducible first | exact HB.out | apply below_alloc | apply pw_below_drewN | apply below_drew1) | exact HB.out)) hb); have n1_ := Aside0.mk (hbox); have n2_ := Aside0.mk ((by rw [hg]; exact (below_size (by repeat (first | (with_reducible first | exact HB.out | apply below_alloc | apply pw_below_drewN | apply below_drew1) | exact HB.out))) : w.heap.size ≤ gb101)); have n3_ := Aside0.mk ((by rw [hg]; exact (below_size (by repeat (first | (with_reducible first | exact HB.out | apply below_alloc | apply pw_below_drewN | apply below_drew1) | exact HB.out))) : w.heap.size ≤ gb101)); clear HB; have HB := n0_; have BK101 := n1_; have GW101 := n2_; have GE101 := n3_; clear n0_ n1_ n2_ n3_; clear hb hbox hg; have hcz11_0 : w10.cell? ⟨gb101, 0, none⟩ = some (.int .i64 a0_0) := (blk_cell BK101.out 0).trans rfl; have hcz11_1 : w10.cell? ⟨gb101, 1, none⟩ = some (.int .i64 a0_1) := (blk_cell BK101.out 1).trans rfl; have hcz11_2 : w10.cell? ⟨gb101, 2, none⟩ = some (.slice A0_2 l0_2.length c0_2) := (blk_cell BK101.out 2).trans rfl; have hfz11_0 := blk_frozen BK101.out 0; have hfz11_1 := blk_frozen BK101.out 1; have hfz11_2 := blk_frozen BK101.out 2) | ((with_reducible refine gate_callee (f := 71) rfl ?_); refine goesL_ (some 5) rfl rfl Try.func71 (by kernel_rfl) rfl #[.agg #[.int .i64 a0_0, .int .i64 a0_1, .slice A0_2 l0_2.length c0_2]] rfl (by (try simp only [List.map_toArray, List.map_cons, List.map_nil]); first | done | rfl | (simp only [List.length_drop, List.length_take]; rfl)) ?_; (with_reducible refine (impl_IsBoard.calls a0_0 a0_1 _ _ l0_2 false _ ?side1 ?side2 A2.out).mono ?_); (case side1 => repeat (first | exact (Kd.C_below HR0_2.out HB.out) | (with_reducible refine Kd.C_alloc ?_ _) | (with_reducible refine Kd.C_drewN ?_ _) | (with_reducible refine Kd.C_drew ?_))); (case side2 => exact HC0_2.out); rintro e w12 ⟨rfl, hb⟩; refine ⟨_, rfl, ?_⟩; have n0_ := Aside0.mk (blk_below (g := gb101) (o := .cells #[.int .i64 a0_0, .int .i64 a0_1, .slice A0_2 l0_2.length c0_2] 26 (0, 0)) (by (with_reducible repeat (first | refine blk_drewN ?_ _ | refine blk_drew ?_ | refine blk_alloc ?_ _)); exact BK101.out) hb); have n1_ := Aside0.mk (below_step (by repeat (first | (with_reducible first | exact HB.out | apply below_alloc | apply pw_below_drewN | apply below_drew1 | refine below_set ?_ GE101.out) | exact HB.out)) hb); clear BK101; clear HB; have BK101 := n0_; have HB := n1_; clear n0_ n1_; (try clear hb); (try clear hb2); (try clear hk); (try clear hi)))
    go_ret2
    exact ⟨_, by first | rfl | (simp [errW_none, errW_some] <;> rfl) | (simp [*, errW_none, errW_some] <;> rfl), by first | exact Kd.S_nil _ _ _ _ _ | exact Kd.N_nil _ _ _ _ _ | exact Kd.V_nil _ _ _ _ _ | exact Kd.Q_nil _ _ _ _ _ | exact Kd.R_nil _ _ _ _ _, by repeat (first | (with_reducible first | exact HB.out | apply below_alloc | apply pw_below_drewN | apply below_drew1 | refine below_set ?_ GE101.out) | exact HB.out)⟩
end Go.Proofs.Ytgnmcfoenmfhcaa.Q
end
section
namespace Go.Proofs.Ytgnmcfoenmfhcaa.Q
set_option linter.unusedVariables false
set_option linter.unusedSectionVars false
open Go.RowKit Go.Proofs.YtgnmcfoenmfhcaaW.PrintWords Go.Proofs.YtgnmcfoenmfhcaaW.PrintLast Go.Proofs.YtgnmcfoenmfhcaaW.PrintMore
open Go.Proofs.YtgnmcfoenmfhcaaL Go.Proofs.Ytgnmcfoenmfhcaa.LawK Go.Proofs.Ytgnmcfoenmfhcaa.BoardK Go.Proofs.Ytgnmcfoenmfhcaa.LinesK Go.Proofs.Ytgnmcfoenmfhcaa.AllK Go.Proofs.Ytgnmcfoenmfhcaa.TimesK
def spec_lcTimes_true.f (a0_0 : Int) (a0_1 : Int) (l0_2 : List Int) : Option (List (List Int)) := if isBoardB a0_0 a0_1 l0_2 = true then some ((cellsS l0_2 a0_1.toNat 0 l0_2.length).filter (fun x => times_all (times (largestS l0_2 a0_1.toNat l0_2.length) x : Int) ((largestS l0_2 a0_1.toNat l0_2.length).length : Int))) else none
set_option maxHeartbeats 16000000 in
set_option maxRecDepth 100000 in
theorem spec_lcTimes_true.calls (a0_0 a0_1 : Int) (A0_2 : Option Addr) (c0_2 : Nat) (l0_2 : List Int) (r : List (List Int)) (w : World) (hr0_2 : Kd.C (Kd.int .i64) w A0_2 l0_2.length l0_2) (hc0_2 : l0_2.length ≤ c0_2) (h : spec_lcTimes_true.f a0_0 a0_1 l0_2 = some r) :
    Calls Try.prog 108 #[.agg #[.int .i64 a0_0, .int .i64 a0_1, .slice A0_2 l0_2.length c0_2], .bool true] w fun e w' => ∃ v0_ : Value, e = .returned (v0_) ∧ Kd.S (Kd.slice 3 (Kd.int .i64)) 24 w' w.heap.size (fun _ => True) v0_ r ∧ Below w.heap.size w w' := by
  by_cases hs : isBoardB a0_0 a0_1 l0_2 = true
  rotate_left
  · rw [spec_lcTimes_true.f, if_neg hs] at h; cases h
  rw [spec_lcTimes_true.f, if_pos hs] at h
  have h := Option.some.inj h
  obtain ⟨R, C, rfl, rfl, hlR, h1R, hR, h1C, hC, hbits⟩ := board_of hs
  rw [Int.toNat_natCast, hlR] at h
  have hb64 : ∀ i (hi : i < l0_2.length), 0 ≤ l0_2[i] ∧ l0_2[i] < 64 := fun i hi => ⟨(hbits i hi).1, by have := (hbits i hi).2; have h3 := two_pow_six hC; omega⟩
  have hLl := largest_len (l := l0_2) hC hR
  have hLr : ∀ p ∈ largestS l0_2 C R, p.length = R := fun p hp => (largest_row hC p hp).1
  have hCf : ∀ x ∈ cellsS l0_2 C 0 R, ∃ r c : Nat, x = [(r : Int), (c : Int)] ∧ r < R := fun x hx => cellsS_form hx
  have hCl : (cellsS l0_2 C 0 R).length ≤ 36 := Nat.le_trans (cellsS_len l0_2 hC R 0) (by omega)
  obtain ⟨kl, hkl⟩ := (lcLargest hlR hR hC hb64).rounds
  obtain ⟨kc, hkc⟩ := (boCells hlR hR hC hb64).rounds
  have CL := Lib.hid (fun (W : World) (hb : Below w.heap.size w W) => spec_lcLargest.calls kl R C A0_2 c0_2 l0_2 _ W (Kd.C_below hr0_2 hb) hc0_2 hkl)
  have CC := Lib.hid (fun (W : World) (hb : Below w.heap.size w W) => spec_boCells.calls kc R C A0_2 c0_2 l0_2 _ W (Kd.C_below hr0_2 hb) hc0_2 hkc)
  clear hkl hkc
  generalize largestS l0_2 C R = L at *
  generalize cellsS l0_2 C 0 R = Cs at *
  have HLL := Aside0.mk hLl
  have HLR := Lib.hid hLr
  have HCF := Lib.hid hCf
  have HCL := Aside0.mk hCl
  have HR6 := Aside0.mk hR
  have HF := Aside0.mk h
  clear h hs hlR h1R h1C hC hbits hb64 hr0_2 hc0_2 hLl hLr hCf hCl hR
  obtain ⟨RI, hRI⟩ : ∃ RI : Int, RI = (R : Int) := ⟨_, rfl⟩
  obtain ⟨CI, hCI⟩ : ∃ CI : Int, CI = (C : Int) := ⟨_, rfl⟩
  rw [← hRI, ← hCI] at CL CC
  rw [← hRI, ← hCI]
  clear hRI hCI
  have hu24 := Try.underlying26
  go_enter Try.func108, Try.ntmps108
  go_wp2_with (first
    | ((with_reducible refine gate_dst (N := 2) rfl ?_); refine box_event ?hg (N := 2) ?hd (cs := #[.int .i64 RI, .int .i64 CI, .slice A0_2 l0_2.length c0_2]) (t := 26) ?hr ?_; (case hd => rfl); (case hg => rfl); (case hr => first | (go_simp; done) | (go_simp; rfl)); intro gb hg w1 hbox hb; have K1 := Aside0.mk hbox; have B1 := Aside0.mk hb; clear hg hbox hb; have zw10 : w1.cell? ⟨gb, 0, none⟩ = some (.int .i64 RI) := (blk_cell K1.out 0).trans rfl; have zw11 : w1.cell? ⟨gb, 1, none⟩ = some (.int .i64 CI) := (blk_cell K1.out 1).trans rfl; have zw12 : w1.cell? ⟨gb, 2, none⟩ = some (.slice A0_2 l0_2.length c0_2) := (blk_cell K1.out 2).trans rfl)
    | (go_at_call 106; (refine (CL.out _ ?sB).mono ?_); (case sB => exact (by repeat (first | (with_reducible first | exact B1.out | apply below_alloc | apply pw_below_drewN | apply below_drew1) | exact B1.out))); rintro e w2 ⟨v5, rfl, ho, hb⟩; obtain ⟨A5, c5, rfl⟩ := Kd.N_slice ho; have K2 := Aside0.mk (blk_below (by (with_reducible repeat (first | refine blk_drewN ?_ _ | refine blk_drew ?_ | refine blk_alloc ?_ _)); exact K1.out) hb); have B2 := Aside0.mk (below_step (by repeat (first | (with_reducible first | exact B1.out | apply below_alloc | apply pw_below_drewN | apply below_drew1) | exact B1.out)) hb); have O5 := Aside0.mk (Kd.N_mono (Kd.N_bound ho) (ok' := fun k => w.heap.size ≤ k ∧ k < w2.heap.size) (fun k hk => ⟨Nat.le_trans B1.out.size (by have := hk.1; exact this), hk.2⟩)); have O5b := Aside0.mk (Kd.N_lower O5.out (show w.heap.size ≤ _ from B1.out.size)); clear O5 ho hb; have zw20 : w2.cell? ⟨gb, 0, none⟩ = some (.int .i64 RI) := (blk_cell K2.out 0).trans rfl; have zw21 : w2.cell? ⟨gb, 1, none⟩ = some (.int .i64 CI) := (blk_cell K2.out 1).trans rfl; have zw22 : w2.cell? ⟨gb, 2, none⟩ = some (.slice A0_2 l0_2.length c0_2) := (blk_cell K2.out 2).trans rfl)
    | (go_at_call 88; (refine (CC.out _ ?sB).mono ?_); (case sB => exact (by repeat (first | (with_reducible first | exact B2.out | apply below_alloc | apply pw_below_drewN | apply below_drew1) | exact B2.out))); rintro e w4 ⟨v7, rfl, ho, hb⟩; obtain ⟨A7, c7, rfl⟩ := Kd.S_slice ho; have B4 := Aside0.mk (below_step (by repeat (first | (with_reducible first | exact B2.out | apply below_alloc | apply pw_below_drewN | apply below_drew1) | exact B2.out)) hb); have O7 := Aside0.mk (Kd.S_mono (Kd.S_bound ho) (ok' := fun k => w2.heap.size ≤ k ∧ k < w4.heap.size) (fun k hk => ⟨hk.2.1, hk.2.2.1⟩)); have O5_ := Aside0.mk (Kd.N_below (by (with_reducible repeat (first | apply Kd.N_alloc | apply Kd.N_drewN | apply Kd.N_drew)); exact O5b.out) hb); have Z4 := Aside0.mk (show w2.heap.size ≤ w4.heap.size from hb.size); clear ho hb O5b))
  obtain ⟨O, hO⟩ : ∃ O : Nat → Prop, O = fun k => w4.heap.size ≤ k := ⟨_, rfl⟩
  have HOn := Lib.hid (show ∀ k, w4.heap.size ≤ k → O k from fun k hk => by rw [hO]; exact hk)
  obtain ⟨hn5, hv5⟩ := N_open O5_.out
  obtain ⟨hn7, f7, inner7, hr7, hv7⟩ := S_open (Kd.S_mono O7.out (ok' := fun k => k < w4.heap.size ∧ ¬ O k) (fun k hk => ⟨hk.2, by rw [hO]; omega⟩))
  have hk5 : ∀ k, (w.heap.size ≤ k ∧ k < w2.heap.size) → k < w4.heap.size ∧ ¬ O k := fun k hk => ⟨by have := Z4.out; omega, by rw [hO]; have := Z4.out; omega⟩
  have ST0 : TSt w w4 O 24 (.slice none 0 0) ([] : List Value) w4 := ⟨B4.out, Nat.le_refl _, fun _ _ _ => rfl, Kd.R_nil _ _ _ _ _⟩
  have V5 := Lib.hid (show ∀ j : Fin L.length, ∃ g A cp, A5 = some ⟨g, 0, none⟩ ∧ L[j].length ≤ cp ∧ ∀ W v vs, TSt w w4 O 24 v vs W → W.cell? ⟨g, j.val, none⟩ = some (.slice A L[j].length cp) ∧ Kd.C (Kd.int .i64) W A L[j].length L[j] from fun j => by
    obtain ⟨g, A, cp, h1, h3, h4⟩ := hv5 j
    exact ⟨g, A, cp, h1, h3, fun W v vs hT => h4 W (fun k hk _ => hT.keep k (hk5 k hk).1 (hk5 k hk).2)⟩)
  have V7 := Lib.hid (show ∀ j : Fin Cs.length, ∃ g A cp, A7 = some ⟨g, 0, none⟩ ∧ inner7.getD j.val (.bool false) = .slice A Cs[j].length cp ∧ Cs[j].length ≤ cp ∧ ∀ W v vs, TSt w w4 O 24 v vs W → W.cell? ⟨g, j.val, none⟩ = some (.slice A Cs[j].length cp) ∧ Kd.C (Kd.int .i64) W A Cs[j].length Cs[j] from fun j => by
    obtain ⟨g, A, cp, h1, h2, h3, h4⟩ := hv7 j
    exact ⟨g, A, cp, h1, h2, h3, fun W v vs hT => h4 W (fun k hk _ => hT.keep k hk.1 hk.2)⟩)
  have HE := Lib.hid (fun (W : World) (v : Value) (σ : List (Fin Cs.length)) (hσ : σ.Nodup) (hT : TSt w w4 O 24 v (σ.map fun i => inner7.getD i.val (.bool false)) W) => TSt.done hr7 (show w.heap.size ≤ _ from B2.out.size) σ hσ hT)
  have H0 := Aside0.mk ST0
  have HW := Aside0.mk (show w.heap.size ≤ w4.heap.size from B4.out.size)
  clear ST0 hn5 hv5 hn7 hr7 hv7 hk5 O5_ O7 Z4 hO B2 B4 K1 K2 B1
  go_loopg [6, 17] Cs.length (fun kq v6 v17 w' => ∃ (i : Nat) (σ : List (Fin Cs.length)) (Av : Option Addr) (cv : Nat), v17 = .int .i64 (i : Int) ∧ v6 = .slice Av σ.length cv ∧ Aside0 (i + kq = Cs.length ∧ σ.length ≤ i) ∧ Aside0 (σ = ((List.finRange Cs.length).take i).filter (fun j => times_all (times L Cs[j] : Int) (L.length : Int))) ∧ Aside0 (TSt w w4 O 24 (.slice Av σ.length cv) (σ.map fun i => inner7.getD i.val (.bool false)) w'))
  case atStart => exact ⟨0, [], _, _, rfl, rfl, ⟨by omega, by simp⟩, ⟨by simp⟩, H0⟩
  case round =>
    clear H0
    obtain ⟨i, σ, Av, cv, rfl, rfl, HI, HP, HT⟩ := hrel
    by_cases hlt : i < Cs.length
    · cases gk with
      | zero => exact absurd HI.out.1 (by omega)
      | succ k1 =>
        obtain ⟨gC, AX, cX, rfl, eX, hleX, hX⟩ := V7.out ⟨i, hlt⟩
        obtain ⟨r0, c0, ex, hrR⟩ := HCF.out Cs[i] (List.getElem_mem hlt)
        have exl : Cs[i].length = 2 := by rw [ex]; rfl
        change inner7.getD i (.bool false) = .slice AX Cs[i].length cX at eX
        change Cs[i].length ≤ cX at hleX
        change ∀ W v vs, TSt w w4 O 24 v vs W → W.cell? ⟨gC, i, none⟩ = some (.slice AX Cs[i].length cX) ∧ Kd.C (Kd.int .i64) W AX Cs[i].length Cs[i] at hX
        rw [exl] at eX hX
        rw [ex] at hX
        have hcX := (hX wr _ _ HT.out).1
        have HX := Lib.hid (fun W v vs hT => (hX W v vs hT).2)
        have HRR := Aside0.mk hrR
        have EX := Aside0.mk eX
        have EC := Aside0.mk (show ∀ h : i < Cs.length, Cs[i]'h = [(r0 : Int), (c0 : Int)] from fun _ => ex)
        have p1 : decide ((i : Int) < (Cs.length : Int)) = true := decide_eq_true (by omega)
        have p1n : decide (i < Cs.length) = true := decide_eq_true (by omega)
        have p2 := eq_true (show (0 : Int) ≤ (i : Int) by omega)
        have p3 := eq_true (show (i : Int) < (Cs.length : Int) by omega)
        have HW1 := Aside0.mk (show wrap64 ((i : Int) + 1) = ((i + 1 : Nat) : Int) by have := HCL.out; rw [w64 (by omega) (by omega)]; rfl)
        have HLT := Aside0.mk hlt
        clear exl eX ex hleX hX hrR
        clear hlt
        go_wp2
        go_loopg [9, 23] L.length (fun kq v9 v23 w' => ∃ n j : Nat, v23 = .int .i64 (j : Int) ∧ v9 = .int .i64 (n : Int) ∧ Aside0 (j + kq = L.length ∧ n ≤ j ∧ n + (L.drop j).countP (fun p => p.getD r0 0 == (c0 : Int)) = times L [(r0 : Int), (c0 : Int)]) ∧ Aside0 (TSt w w4 O 24 (.slice Av σ.length cv) (σ.map fun i => inner7.getD i.val (.bool false)) w'))
        case atStart => exact ⟨0, 0, rfl, rfl, ⟨by omega, by omega, by rw [List.drop_zero, Nat.zero_add]; rfl⟩, ⟨(by (with_reducible repeat (first | refine TSt.drewN ?_ _ | refine TSt.drew ?_)); exact HT.out)⟩⟩
        case round =>
          clear HT hcX p1 p1n p2 p3
          obtain ⟨n, j, rfl, rfl, HJ, HT⟩ := hrel
          by_cases hlt : j < L.length
          · cases gk with
            | zero => exact absurd HJ.out.1 (by omega)
            | succ k2 =>
              obtain ⟨gL, AP, cP, rfl, hleP, hP⟩ := V5.out ⟨j, hlt⟩
              change ∀ W v vs, TSt w w4 O 24 v vs W → W.cell? ⟨gL, j, none⟩ = some (.slice AP L[j].length cP) ∧ Kd.C (Kd.int .i64) W AP L[j].length L[j] at hP
              have hlR : L[j].length = R := HLR.out _ (List.getElem_mem hlt)
              obtain ⟨pr, hpr⟩ : ∃ pr, pr = L[j] := ⟨_, rfl⟩
              rw [← hpr] at hP hlR
              rw [hlR] at hP
              obtain ⟨hcP, hCP⟩ := hP _ _ _ HT.out
              have hCX := HX.out _ _ _ HT.out
              obtain ⟨adx, rfl, hx0⟩ := Kd.at_int hCX 0 (by omega) (by decide)
              obtain ⟨adx', ex', hx1⟩ := Kd.at_int hCX 1 (by omega) (by decide)
              injection ex' with ex'
              subst ex'
              have hrR := HRR.out
              obtain ⟨adp, rfl, hp0⟩ := Kd.at_int (show Kd.C (Kd.int .i64) wr AP pr.length pr from by rw [hlR]; exact hCP) (r0 : Int) (by omega) (by omega)
              have er : rd pr (r0 : Int) = pr.getD r0 0 := by unfold rd; rw [Int.toNat_natCast]
              obtain ⟨y, hy⟩ : ∃ y, y = pr.getD r0 0 := ⟨_, rfl⟩
              rw [er, ← hy] at hp0
              replace hx0 : wr.cell? (adx.add (0 : Int).toNat) = some (.int .i64 (r0 : Int)) := hx0
              replace hx1 : wr.cell? (adx.add (1 : Int).toNat) = some (.int .i64 (c0 : Int)) := hx1
              have hx0b : wr.cell? adx = some (.int .i64 (r0 : Int)) := by rw [show adx.add (0 : Int).toNat = adx from by cases adx; rfl] at hx0; exact hx0
              have hx1b : wr.cell? { block := adx.block, off := adx.off + 1 } = some (.int .i64 (c0 : Int)) := hx1
              have hp0b : wr.cell? (adp.add r0) = some (.int .i64 y) := by rw [Int.toNat_natCast] at hp0; exact hp0
              have q1 : decide ((j : Int) < (L.length : Int)) = true := decide_eq_true (by omega)
              have q1n : decide (j < L.length) = true := decide_eq_true (by omega)
              have q2 := eq_true (show (0 : Int) ≤ (j : Int) by omega)
              have q3 := eq_true (show (j : Int) < (L.length : Int) by omega)
              have q4 := eq_true (show (0 : Int) ≤ (r0 : Int) by omega)
              have q5 := eq_true (show (r0 : Int) < (R : Int) by omega)
              have HW2 := Aside0.mk (show wrap64 ((j : Int) + 1) = ((j + 1 : Nat) : Int) by have := HLL.out; rw [w64 (by omega) (by omega)]; rfl)
              have HW3 := Aside0.mk (show wrap64 ((n : Int) + 1) = ((n + 1 : Nat) : Int) by have := HLL.out; have := HJ.out.2.1; rw [w64 (by omega) (by omega)]; rfl)
              have HJ2 := Aside0.mk (show j + 1 + k2 = L.length ∧ n ≤ j ∧ n + ((L.drop (j + 1)).countP (fun p => p.getD r0 0 == (c0 : Int)) + if (y == (c0 : Int)) = true then 1 else 0) = times L [(r0 : Int), (c0 : Int)] from by
                obtain ⟨h1, h2, h3⟩ := HJ.out
                rw [List.drop_eq_getElem_cons hlt, List.countP_cons, ← hpr, ← hy] at h3
                exact ⟨by omega, h2, h3⟩)
              clear HJ hlt hleP hP hlR hCP hCX hrR er hpr hy
              by_cases c7 : (y == (c0 : Int)) = true
              · go_wp2
                go_quiet (fail)
                go_wp2
                go_roundg k2
                case measure => omega
                case rel =>
                  refine ⟨n + 1, j + 1, (by first | exact congrArg (Value.int .i64) HW2.out | (rw [HW2.out]; done) | (rw [HW2.out]; rfl)), (by first | exact congrArg (Value.int .i64) HW3.out | (rw [HW3.out]; done) | (rw [HW3.out]; rfl)), ⟨by have := HJ2.out; omega, by have := HJ2.out; omega, by have := HJ2.out.2.2; rw [if_pos c7] at this; omega⟩, ⟨(by (with_reducible repeat (first | refine TSt.drewN ?_ _ | refine TSt.drew ?_)); exact HT.out)⟩⟩
              · replace c7 : (y == (c0 : Int)) = false := Bool.eq_false_iff.2 c7
                go_wp2
                go_quiet (fail)
                go_wp2
                go_roundg k2
                case measure => omega
                case rel =>
                  refine ⟨n, j + 1, (by first | exact congrArg (Value.int .i64) HW2.out | (rw [HW2.out]; done) | (rw [HW2.out]; rfl)), rfl, ⟨by have := HJ2.out; omega, by have := HJ2.out; omega, by have := HJ2.out.2.2; rw [c7] at this; simpa using this⟩, ⟨(by (with_reducible repeat (first | refine TSt.drewN ?_ _ | refine TSt.drew ?_)); exact HT.out)⟩⟩
          · have q1 : decide ((j : Int) < (L.length : Int)) = false := decide_eq_false (by omega)
            have q1n : decide (j < L.length) = false := decide_eq_false (by omega)
            have HN := Aside0.mk (show n = times L [(r0 : Int), (c0 : Int)] from by
              obtain ⟨h1, h2, h3⟩ := HJ.out
              rw [List.drop_of_length_le (by omega)] at h3
              simpa using h3)
            have HG := Aside0.mk (show ((List.finRange Cs.length).take (i + 1)).filter (fun j => times_all (times L Cs[j] : Int) (L.length : Int)) = σ ++ if (times_all (n : Int) (L.length : Int)) = true then [⟨i, HLT.out⟩] else [] from by
              rw [List.take_succ_eq_append_getElem (by simp; exact HLT.out), List.filter_append, ← HP.out, List.filter_cons, List.filter_nil]
              rw [HN.out]
              simp only [List.getElem_finRange, Fin.cast_mk]
              rw [show times L (Cs[(⟨i, HLT.out⟩ : Fin Cs.length)]) = times L [(r0 : Int), (c0 : Int)] from congrArg (times L) (EC.out HLT.out)])
            clear hlt HJ
            by_cases c8 : (times_all (n : Int) (L.length : Int)) = true
            · have c9 : ((n : Int) == (L.length : Int)) = true := c8
              go_wp2_with (first
                | ((with_reducible refine gate_builtin (b := .append) (xs := #[.tmp 55, .tmp 57]) rfl ?_); at_builtin; refine Kd.R_append (Kd.raw 1) (w0 := w) w.heap.size rfl (.tmp 55) (.tmp 57) 61 24 (.slice none 0 0) 24 rfl Try.underlying61 info24 rfl (by decide) (by omega) (.slice Av σ.length cv) ((σ.map fun i => inner7.getD i.val (.bool false)).map fun u => [u]) [.slice AX 2 cX] [.slice AX 2 cX] O (fun _ => False) rfl rfl ?aP (fun k_ hk_ => hk_.elim) ?aF ?aO ?aB ?aS ?aL ?_; (case aP => exact ⟨rfl, rfl, fun u hu => by rw [List.mem_singleton.1 hu]; rfl⟩); (case aF => exact (fun k hk => HOn.out k (Nat.le_trans HT.out.sz hk))); (case aO => refine TSt.out (w4 := w4) (vs := (σ.map fun i => inner7.getD i.val (.bool false))) ?_; (with_reducible repeat (first | refine TSt.drewN ?_ _ | refine TSt.drew ?_)); exact HT.out); (case aB => refine TSt.B (w4 := w4) (O := O) (e := 24) (v := .slice Av σ.length cv) (vs := (σ.map fun i => inner7.getD i.val (.bool false))) ?_; (with_reducible repeat (first | refine TSt.drewN ?_ _ | refine TSt.drew ?_)); exact HT.out); (case aS => have := HT.out.B.size; exact this); (case aL => have := HI.out.2; have := HCL.out; have := HLT.out; (try simp only [List.length_map]); omega); intro v9 w9 ho hb hg hat; obtain ⟨A9, c9_, hv9⟩ := Kd.R_slice ho; have hv9' : v9 = .slice A9 (σ.length + 1) c9_ := (by rw [hv9]; first | done | (simp; done) | rfl); clear hv9; subst hv9'; have HT9 := Aside0.mk (TSt.app (u := .slice AX 2 cX) (w4 := w4) (vs := (σ.map fun i => inner7.getD i.val (.bool false))) (by (with_reducible repeat (first | refine TSt.drewN ?_ _ | refine TSt.drew ?_)); exact HT.out) ho hb hg); clear ho hb hg hat))
              go_roundg k1
              case measure => omega
              case rel =>
                refine ⟨i + 1, σ ++ [⟨i, HLT.out⟩], A9, c9_, (by first | exact congrArg (Value.int .i64) HW1.out | (rw [HW1.out]; done) | (rw [HW1.out]; rfl)), (by rw [List.length_append, List.length_singleton]), ⟨by have := HI.out; omega, by rw [List.length_append, List.length_singleton]; have := HI.out; omega⟩, ⟨by rw [HG.out, if_pos c8]⟩, ⟨?_⟩⟩
                have HU := HT9.out
                rw [← EX.out] at HU
                rw [List.map_append, List.length_append, List.length_singleton]
                exact (by (with_reducible repeat (first | refine TSt.drewN ?_ _ | refine TSt.drew ?_)); exact HU)
            · have c9 : ((n : Int) == (L.length : Int)) = false := Bool.eq_false_iff.2 c8
              go_wp2
              go_roundg k1
              case measure => omega
              case rel => exact ⟨i + 1, σ, Av, cv, (by first | exact congrArg (Value.int .i64) HW1.out | (rw [HW1.out]; done) | (rw [HW1.out]; rfl)), rfl, ⟨by have := HI.out; omega, by have := HI.out; omega⟩, ⟨by rw [HG.out, if_neg c8, List.append_nil]⟩, ⟨(by (with_reducible repeat (first | refine TSt.drewN ?_ _ | refine TSt.drew ?_)); exact HT.out)⟩⟩
    · have p1 : decide ((i : Int) < (Cs.length : Int)) = false := decide_eq_false (by omega)
      have p1n : decide (i < Cs.length) = false := decide_eq_false (by omega)
      have HG := Aside0.mk (show σ = (List.finRange Cs.length).filter (fun j => times_all (times L Cs[j] : Int) (L.length : Int)) from by
        rw [HP.out, List.take_of_length_le (by simp; omega)])
      have HQ := Aside0.mk (show σ.map (fun i => Cs[i]) = r from by
        rw [HG.out, ← HF.out]; exact filter_fin (fun x => times_all (times L x : Int) (L.length : Int)) Cs)
      have HD := Aside0.mk (show σ.Nodup from by rw [HG.out]; exact (List.nodup_finRange _).filter _)
      clear hlt
      go_wp2
      go_ret
      have HU := HE.out _ _ σ HD.out HT.out
      rw [HQ.out] at HU
      exact ⟨_, rfl, HU, HT.out.B⟩
def spec_lcTimes_false.f (a0_0 : Int) (a0_1 : Int) (l0_2 : List Int) : Option (List (List Int)) := if isBoardB a0_0 a0_1 l0_2 = true then some ((cellsS l0_2 a0_1.toNat 0 l0_2.length).filter (fun x => times_none (times (largestS l0_2 a0_1.toNat l0_2.length) x : Int) ((largestS l0_2 a0_1.toNat l0_2.length).length : Int))) else none
set_option maxHeartbeats 16000000 in
set_option maxRecDepth 100000 in
theorem spec_lcTimes_false.calls (a0_0 a0_1 : Int) (A0_2 : Option Addr) (c0_2 : Nat) (l0_2 : List Int) (r : List (List Int)) (w : World) (hr0_2 : Kd.C (Kd.int .i64) w A0_2 l0_2.length l0_2) (hc0_2 : l0_2.length ≤ c0_2) (h : spec_lcTimes_false.f a0_0 a0_1 l0_2 = some r) :
    Calls Try.prog 108 #[.agg #[.int .i64 a0_0, .int .i64 a0_1, .slice A0_2 l0_2.length c0_2], .bool false] w fun e w' => ∃ v0_ : Value, e = .returned (v0_) ∧ Kd.S (Kd.slice 3 (Kd.int .i64)) 24 w' w.heap.size (fun _ => True) v0_ r ∧ Below w.heap.size w w' := by
  by_cases hs : isBoardB a0_0 a0_1 l0_2 = true
  rotate_left
  · rw [spec_lcTimes_false.f, if_neg hs] at h; cases h
  rw [spec_lcTimes_false.f, if_pos hs] at h
  have h := Option.some.inj h
  obtain ⟨R, C, rfl, rfl, hlR, h1R, hR, h1C, hC, hbits⟩ := board_of hs
  rw [Int.toNat_natCast, hlR] at h
  have hb64 : ∀ i (hi : i < l0_2.length), 0 ≤ l0_2[i] ∧ l0_2[i] < 64 := fun i hi => ⟨(hbits i hi).1, by have := (hbits i hi).2; have h3 := two_pow_six hC; omega⟩
  have hLl := largest_len (l := l0_2) hC hR
  have hLr : ∀ p ∈ largestS l0_2 C R, p.length = R := fun p hp => (largest_row hC p hp).1
  have hCf : ∀ x ∈ cellsS l0_2 C 0 R, ∃ r c : Nat, x = [(r : Int), (c : Int)] ∧ r < R := fun x hx => cellsS_form hx
  have hCl : (cellsS l0_2 C 0 R).length ≤ 36 := Nat.le_trans (cellsS_len l0_2 hC R 0) (by omega)
  obtain ⟨kl, hkl⟩ := (lcLargest hlR hR hC hb64).rounds
  obtain ⟨kc, hkc⟩ := (boCells hlR hR hC hb64).rounds
  have CL := Lib.hid (fun (W : World) (hb : Below w.heap.size w W) => spec_lcLargest.calls kl R C A0_2 c0_2 l0_2 _ W (Kd.C_below hr0_2 hb) hc0_2 hkl)
  have CC := Lib.hid (fun (W : World) (hb : Below w.heap.size w W) => spec_boCells.calls kc R C A0_2 c0_2 l0_2 _ W (Kd.C_below hr0_2 hb) hc0_2 hkc)
  clear hkl hkc
  generalize largestS l0_2 C R = L at *
  generalize cellsS l0_2 C 0 R = Cs at *
  have HLL := Aside0.mk hLl
  have HLR := Lib.hid hLr
  have HCF := Lib.hid hCf
  have HCL := Aside0.mk hCl
  have HR6 := Aside0.mk hR
  have HF := Aside0.mk h
  clear h hs hlR h1R h1C hC hbits hb64 hr0_2 hc0_2 hLl hLr hCf hCl hR
  obtain ⟨RI, hRI⟩ : ∃ RI : Int, RI = (R : Int) := ⟨_, rfl⟩
  obtain ⟨CI, hCI⟩ : ∃ CI : Int, CI = (C : Int) := ⟨_, rfl⟩
  rw [← hRI, ← hCI] at CL CC
  rw [← hRI, ← hCI]
  clear hRI hCI
  have hu24 := Try.underlying26
  go_enter Try.func108, Try.ntmps108
  go_wp2_with (first
    | ((with_reducible refine gate_dst (N := 2) rfl ?_); refine box_event ?hg (N := 2) ?hd (cs := #[.int .i64 RI, .int .i64 CI, .slice A0_2 l0_2.length c0_2]) (t := 26) ?hr ?_; (case hd => rfl); (case hg => rfl); (case hr => first | (go_simp; done) | (go_simp; rfl)); intro gb hg w1 hbox hb; have K1 := Aside0.mk hbox; have B1 := Aside0.mk hb; clear hg hbox hb; have zw10 : w1.cell? ⟨gb, 0, none⟩ = some (.int .i64 RI) := (blk_cell K1.out 0).trans rfl; have zw11 : w1.cell? ⟨gb, 1, none⟩ = some (.int .i64 CI) := (blk_cell K1.out 1).trans rfl; have zw12 : w1.cell? ⟨gb, 2, none⟩ = some (.slice A0_2 l0_2.length c0_2) := (blk_cell K1.out 2).trans rfl)
    | (go_at_call 106; (refine (CL.out _ ?sB).mono ?_); (case sB => exact (by repeat (first | (with_reducible first | exact B1.out | apply below_alloc | apply pw_below_drewN | apply below_drew1) | exact B1.out))); rintro e w2 ⟨v5, rfl, ho, hb⟩; obtain ⟨A5, c5, rfl⟩ := Kd.N_slice ho; have K2 := Aside0.mk (blk_below (by (with_reducible repeat (first | refine blk_drewN ?_ _ | refine blk_drew ?_ | refine blk_alloc ?_ _)); exact K1.out) hb); have B2 := Aside0.mk (below_step (by repeat (first | (with_reducible first | exact B1.out | apply below_alloc | apply pw_below_drewN | apply below_drew1) | exact B1.out)) hb); have O5 := Aside0.mk (Kd.N_mono (Kd.N_bound ho) (ok' := fun k => w.heap.size ≤ k ∧ k < w2.heap.size) (fun k hk => ⟨Nat.le_trans B1.out.size (by have := hk.1; exact this), hk.2⟩)); have O5b := Aside0.mk (Kd.N_lower O5.out (show w.heap.size ≤ _ from B1.out.size)); clear O5 ho hb; have zw20 : w2.cell? ⟨gb, 0, none⟩ = some (.int .i64 RI) := (blk_cell K2.out 0).trans rfl; have zw21 : w2.cell? ⟨gb, 1, none⟩ = some (.int .i64 CI) := (blk_cell K2.out 1).trans rfl; have zw22 : w2.cell? ⟨gb, 2, none⟩ = some (.slice A0_2 l0_2.length c0_2) := (blk_cell K2.out 2).trans rfl)
    | (go_at_call 88; (refine (CC.out _ ?sB).mono ?_); (case sB => exact (by repeat (first | (with_reducible first | exact B2.out | apply below_alloc | apply pw_below_drewN | apply below_drew1) | exact B2.out))); rintro e w4 ⟨v7, rfl, ho, hb⟩; obtain ⟨A7, c7, rfl⟩ := Kd.S_slice ho; have B4 := Aside0.mk (below_step (by repeat (first | (with_reducible first | exact B2.out | apply below_alloc | apply pw_below_drewN | apply below_drew1) | exact B2.out)) hb); have O7 := Aside0.mk (Kd.S_mono (Kd.S_bound ho) (ok' := fun k => w2.heap.size ≤ k ∧ k < w4.heap.size) (fun k hk => ⟨hk.2.1, hk.2.2.1⟩)); have O5_ := Aside0.mk (Kd.N_below (by (with_reducible repeat (first | apply Kd.N_alloc | apply Kd.N_drewN | apply Kd.N_drew)); exact O5b.out) hb); have Z4 := Aside0.mk (show w2.heap.size ≤ w4.heap.size from hb.size); clear ho hb O5b))
  obtain ⟨O, hO⟩ : ∃ O : Nat → Prop, O = fun k => w4.heap.size ≤ k := ⟨_, rfl⟩
  have HOn := Lib.hid (show ∀ k, w4.heap.size ≤ k → O k from fun k hk => by rw [hO]; exact hk)
  obtain ⟨hn5, hv5⟩ := N_open O5_.out
  obtain ⟨hn7, f7, inner7, hr7, hv7⟩ := S_open (Kd.S_mono O7.out (ok' := fun k => k < w4.heap.size ∧ ¬ O k) (fun k hk => ⟨hk.2, by rw [hO]; omega⟩))
  have hk5 : ∀ k, (w.heap.size ≤ k ∧ k < w2.heap.size) → k < w4.heap.size ∧ ¬ O k := fun k hk => ⟨by have := Z4.out; omega, by rw [hO]; have := Z4.out; omega⟩
  have ST0 : TSt w w4 O 24 (.slice none 0 0) ([] : List Value) w4 := ⟨B4.out, Nat.le_refl _, fun _ _ _ => rfl, Kd.R_nil _ _ _ _ _⟩
  have V5 := Lib.hid (show ∀ j : Fin L.length, ∃ g A cp, A5 = some ⟨g, 0, none⟩ ∧ L[j].length ≤ cp ∧ ∀ W v vs, TSt w w4 O 24 v vs W → W.cell? ⟨g, j.val, none⟩ = some (.slice A L[j].length cp) ∧ Kd.C (Kd.int .i64) W A L[j].length L[j] from fun j => by
    obtain ⟨g, A, cp, h1, h3, h4⟩ := hv5 j
    exact ⟨g, A, cp, h1, h3, fun W v vs hT => h4 W (fun k hk _ => hT.keep k (hk5 k hk).1 (hk5 k hk).2)⟩)
  have V7 := Lib.hid (show ∀ j : Fin Cs.length, ∃ g A cp, A7 = some ⟨g, 0, none⟩ ∧ inner7.getD j.val (.bool false) = .slice A Cs[j].length cp ∧ Cs[j].length ≤ cp ∧ ∀ W v vs, TSt w w4 O 24 v vs W → W.cell? ⟨g, j.val, none⟩ = some (.slice A Cs[j].length cp) ∧ Kd.C (Kd.int .i64) W A Cs[j].length Cs[j] from fun j => by
    obtain ⟨g, A, cp, h1, h2, h3, h4⟩ := hv7 j
    exact ⟨g, A, cp, h1, h2, h3, fun W v vs hT => h4 W (fun k hk _ => hT.keep k hk.1 hk.2)⟩)
  have HE := Lib.hid (fun (W : World) (v : Value) (σ : List (Fin Cs.length)) (hσ : σ.Nodup) (hT : TSt w w4 O 24 v (σ.map fun i => inner7.getD i.val (.bool false)) W) => TSt.done hr7 (show w.heap.size ≤ _ from B2.out.size) σ hσ hT)
  have H0 := Aside0.mk ST0
  have HW := Aside0.mk (show w.heap.size ≤ w4.heap.size from B4.out.size)
  clear ST0 hn5 hv5 hn7 hr7 hv7 hk5 O5_ O7 Z4 hO B2 B4 K1 K2 B1
  go_loopg [6, 17] Cs.length (fun kq v6 v17 w' => ∃ (i : Nat) (σ : List (Fin Cs.length)) (Av : Option Addr) (cv : Nat), v17 = .int .i64 (i : Int) ∧ v6 = .slice Av σ.length cv ∧ Aside0 (i + kq = Cs.length ∧ σ.length ≤ i) ∧ Aside0 (σ = ((List.finRange Cs.length).take i).filter (fun j => times_none (times L Cs[j] : Int) (L.length : Int))) ∧ Aside0 (TSt w w4 O 24 (.slice Av σ.length cv) (σ.map fun i => inner7.getD i.val (.bool false)) w'))
  case atStart => exact ⟨0, [], _, _, rfl, rfl, ⟨by omega, by simp⟩, ⟨by simp⟩, H0⟩
  case round =>
    clear H0
    obtain ⟨i, σ, Av, cv, rfl, rfl, HI, HP, HT⟩ := hrel
    by_cases hlt : i < Cs.length
    · cases gk with
      | zero => exact absurd HI.out.1 (by omega)
      | succ k1 =>
        obtain ⟨gC, AX, cX, rfl, eX, hleX, hX⟩ := V7.out ⟨i, hlt⟩
        obtain ⟨r0, c0, ex, hrR⟩ := HCF.out Cs[i] (List.getElem_mem hlt)
        have exl : Cs[i].length = 2 := by rw [ex]; rfl
        change inner7.getD i (.bool false) = .slice AX Cs[i].length cX at eX
        change Cs[i].length ≤ cX at hleX
        change ∀ W v vs, TSt w w4 O 24 v vs W → W.cell? ⟨gC, i, none⟩ = some (.slice AX Cs[i].length cX) ∧ Kd.C (Kd.int .i64) W AX Cs[i].length Cs[i] at hX
        rw [exl] at eX hX
        rw [ex] at hX
        have hcX := (hX wr _ _ HT.out).1
        have HX := Lib.hid (fun W v vs hT => (hX W v vs hT).2)
        have HRR := Aside0.mk hrR
        have EX := Aside0.mk eX
        have EC := Aside0.mk (show ∀ h : i < Cs.length, Cs[i]'h = [(r0 : Int), (c0 : Int)] from fun _ => ex)
        have p1 : decide ((i : Int) < (Cs.length : Int)) = true := decide_eq_true (by omega)
        have p1n : decide (i < Cs.length) = true := decide_eq_true (by omega)
        have p2 := eq_true (show (0 : Int) ≤ (i : Int) by omega)
        have p3 := eq_true (show (i : Int) < (Cs.length : Int) by omega)
        have HW1 := Aside0.mk (show wrap64 ((i : Int) + 1) = ((i + 1 : Nat) : Int) by have := HCL.out; rw [w64 (by omega) (by omega)]; rfl)
        have HLT := Aside0.mk hlt
        clear exl eX ex hleX hX hrR
        clear hlt
        go_wp2
        go_loopg [9, 23] L.length (fun kq v9 v23 w' => ∃ n j : Nat, v23 = .int .i64 (j : Int) ∧ v9 = .int .i64 (n : Int) ∧ Aside0 (j + kq = L.length ∧ n ≤ j ∧ n + (L.drop j).countP (fun p => p.getD r0 0 == (c0 : Int)) = times L [(r0 : Int), (c0 : Int)]) ∧ Aside0 (TSt w w4 O 24 (.slice Av σ.length cv) (σ.map fun i => inner7.getD i.val (.bool false)) w'))
        case atStart => exact ⟨0, 0, rfl, rfl, ⟨by omega, by omega, by rw [List.drop_zero, Nat.zero_add]; rfl⟩, ⟨(by (with_reducible repeat (first | refine TSt.drewN ?_ _ | refine TSt.drew ?_)); exact HT.out)⟩⟩
        case round =>
          clear HT hcX p1 p1n p2 p3
          obtain ⟨n, j, rfl, rfl, HJ, HT⟩ := hrel
          by_cases hlt : j < L.length
          · cases gk with
            | zero => exact absurd HJ.out.1 (by omega)
            | succ k2 =>
              obtain ⟨gL, AP, cP, rfl, hleP, hP⟩ := V5.out ⟨j, hlt⟩
              change ∀ W v vs, TSt w w4 O 24 v vs W → W.cell? ⟨gL, j, none⟩ = some (.slice AP L[j].length cP) ∧ Kd.C (Kd.int .i64) W AP L[j].length L[j] at hP
              have hlR : L[j].length = R := HLR.out _ (List.getElem_mem hlt)
              obtain ⟨pr, hpr⟩ : ∃ pr, pr = L[j] := ⟨_, rfl⟩
              rw [← hpr] at hP hlR
              rw [hlR] at hP
              obtain ⟨hcP, hCP⟩ := hP _ _ _ HT.out
              have hCX := HX.out _ _ _ HT.out
              obtain ⟨adx, rfl, hx0⟩ := Kd.at_int hCX 0 (by omega) (by decide)
              obtain ⟨adx', ex', hx1⟩ := Kd.at_int hCX 1 (by omega) (by decide)
              injection ex' with ex'
              subst ex'
              have hrR := HRR.out
              obtain ⟨adp, rfl, hp0⟩ := Kd.at_int (show Kd.C (Kd.int .i64) wr AP pr.length pr from by rw [hlR]; exact hCP) (r0 : Int) (by omega) (by omega)
              have er : rd pr (r0 : Int) = pr.getD r0 0 := by unfold rd; rw [Int.toNat_natCast]
              obtain ⟨y, hy⟩ : ∃ y, y = pr.getD r0 0 := ⟨_, rfl⟩
              rw [er, ← hy] at hp0
              replace hx0 : wr.cell? (adx.add (0 : Int).toNat) = some (.int .i64 (r0 : Int)) := hx0
              replace hx1 : wr.cell? (adx.add (1 : Int).toNat) = some (.int .i64 (c0 : Int)) := hx1
              have hx0b : wr.cell? adx = some (.int .i64 (r0 : Int)) := by rw [show adx.add (0 : Int).toNat = adx from by cases adx; rfl] at hx0; exact hx0
              have hx1b : wr.cell? { block := adx.block, off := adx.off + 1 } = some (.int .i64 (c0 : Int)) := hx1
              have hp0b : wr.cell? (adp.add r0) = some (.int .i64 y) := by rw [Int.toNat_natCast] at hp0; exact hp0
              have q1 : decide ((j : Int) < (L.length : Int)) = true := decide_eq_true (by omega)
              have q1n : decide (j < L.length) = true := decide_eq_true (by omega)
              have q2 := eq_true (show (0 : Int) ≤ (j : Int) by omega)
              have q3 := eq_true (show (j : Int) < (L.length : Int) by omega)
              have q4 := eq_true (show (0 : Int) ≤ (r0 : Int) by omega)
              have q5 := eq_true (show (r0 : Int) < (R : Int) by omega)
              have HW2 := Aside0.mk (show wrap64 ((j : Int) + 1) = ((j + 1 : Nat) : Int) by have := HLL.out; rw [w64 (by omega) (by omega)]; rfl)
              have HW3 := Aside0.mk (show wrap64 ((n : Int) + 1) = ((n + 1 : Nat) : Int) by have := HLL.out; have := HJ.out.2.1; rw [w64 (by omega) (by omega)]; rfl)
              have HJ2 := Aside0.mk (show j + 1 + k2 = L.length ∧ n ≤ j ∧ n + ((L.drop (j + 1)).countP (fun p => p.getD r0 0 == (c0 : Int)) + if (y == (c0 : Int)) = true then 1 else 0) = times L [(r0 : Int), (c0 : Int)] from by
                obtain ⟨h1, h2, h3⟩ := HJ.out
                rw [List.drop_eq_getElem_cons hlt, List.countP_cons, ← hpr, ← hy] at h3
                exact ⟨by omega, h2, h3⟩)
              clear HJ hlt hleP hP hlR hCP hCX hrR er hpr hy
              by_cases c7 : (y == (c0 : Int)) = true
              · go_wp2
                go_quiet (fail)
                go_wp2
                go_roundg k2
                case measure => omega
                case rel =>
                  refine ⟨n + 1, j + 1, (by first | exact congrArg (Value.int .i64) HW2.out | (rw [HW2.out]; done) | (rw [HW2.out]; rfl)), (by first | exact congrArg (Value.int .i64) HW3.out | (rw [HW3.out]; done) | (rw [HW3.out]; rfl)), ⟨by have := HJ2.out; omega, by have := HJ2.out; omega, by have := HJ2.out.2.2; rw [if_pos c7] at this; omega⟩, ⟨(by (with_reducible repeat (first | refine TSt.drewN ?_ _ | refine TSt.drew ?_)); exact HT.out)⟩⟩
              · replace c7 : (y == (c0 : Int)) = false := Bool.eq_false_iff.2 c7
                go_wp2
                go_quiet (fail)
                go_wp2
                go_roundg k2
                case measure => omega
                case rel =>
                  refine ⟨n, j + 1, (by first | exact congrArg (Value.int .i64) HW2.out | (rw [HW2.out]; done) | (rw [HW2.out]; rfl)), rfl, ⟨by have := HJ2.out; omega, by have := HJ2.out; omega, by have := HJ2.out.2.2; rw [c7] at this; simpa using this⟩, ⟨(by (with_reducible repeat (first | refine TSt.drewN ?_ _ | refine TSt.drew ?_)); exact HT.out)⟩⟩
          · have q1 : decide ((j : Int) < (L.length : Int)) = false := decide_eq_false (by omega)
            have q1n : decide (j < L.length) = false := decide_eq_false (by omega)
            have HN := Aside0.mk (show n = times L [(r0 : Int), (c0 : Int)] from by
              obtain ⟨h1, h2, h3⟩ := HJ.out
              rw [List.drop_of_length_le (by omega)] at h3
              simpa using h3)
            have HG := Aside0.mk (show ((List.finRange Cs.length).take (i + 1)).filter (fun j => times_none (times L Cs[j] : Int) (L.length : Int)) = σ ++ if (times_none (n : Int) (L.length : Int)) = true then [⟨i, HLT.out⟩] else [] from by
              rw [List.take_succ_eq_append_getElem (by simp; exact HLT.out), List.filter_append, ← HP.out, List.filter_cons, List.filter_nil]
              rw [HN.out]
              simp only [List.getElem_finRange, Fin.cast_mk]
              rw [show times L (Cs[(⟨i, HLT.out⟩ : Fin Cs.length)]) = times L [(r0 : Int), (c0 : Int)] from congrArg (times L) (EC.out HLT.out)])
            clear hlt HJ
            by_cases c8 : (times_none (n : Int) (L.length : Int)) = true
            · have c9 : ((n : Int) == 0) = true := c8
              go_wp2_with (first
                | ((with_reducible refine gate_builtin (b := .append) (xs := #[.tmp 55, .tmp 57]) rfl ?_); at_builtin; refine Kd.R_append (Kd.raw 1) (w0 := w) w.heap.size rfl (.tmp 55) (.tmp 57) 61 24 (.slice none 0 0) 24 rfl Try.underlying61 info24 rfl (by decide) (by omega) (.slice Av σ.length cv) ((σ.map fun i => inner7.getD i.val (.bool false)).map fun u => [u]) [.slice AX 2 cX] [.slice AX 2 cX] O (fun _ => False) rfl rfl ?aP (fun k_ hk_ => hk_.elim) ?aF ?aO ?aB ?aS ?aL ?_; (case aP => exact ⟨rfl, rfl, fun u hu => by rw [List.mem_singleton.1 hu]; rfl⟩); (case aF => exact (fun k hk => HOn.out k (Nat.le_trans HT.out.sz hk))); (case aO => refine TSt.out (w4 := w4) (vs := (σ.map fun i => inner7.getD i.val (.bool false))) ?_; (with_reducible repeat (first | refine TSt.drewN ?_ _ | refine TSt.drew ?_)); exact HT.out); (case aB => refine TSt.B (w4 := w4) (O := O) (e := 24) (v := .slice Av σ.length cv) (vs := (σ.map fun i => inner7.getD i.val (.bool false))) ?_; (with_reducible repeat (first | refine TSt.drewN ?_ _ | refine TSt.drew ?_)); exact HT.out); (case aS => have := HT.out.B.size; exact this); (case aL => have := HI.out.2; have := HCL.out; have := HLT.out; (try simp only [List.length_map]); omega); intro v9 w9 ho hb hg hat; obtain ⟨A9, c9_, hv9⟩ := Kd.R_slice ho; have hv9' : v9 = .slice A9 (σ.length + 1) c9_ := (by rw [hv9]; first | done | (simp; done) | rfl); clear hv9; subst hv9'; have HT9 := Aside0.mk (TSt.app (u := .slice AX 2 cX) (w4 := w4) (vs := (σ.map fun i => inner7.getD i.val (.bool false))) (by (with_reducible repeat (first | refine TSt.drewN ?_ _ | refine TSt.drew ?_)); exact HT.out) ho hb hg); clear ho hb hg hat))
              go_roundg k1
              case measure => omega
              case rel =>
                refine ⟨i + 1, σ ++ [⟨i, HLT.out⟩], A9, c9_, (by first | exact congrArg (Value.int .i64) HW1.out | (rw [HW1.out]; done) | (rw [HW1.out]; rfl)), (by rw [List.length_append, List.length_singleton]), ⟨by have := HI.out; omega, by rw [List.length_append, List.length_singleton]; have := HI.out; omega⟩, ⟨by rw [HG.out, if_pos c8]⟩, ⟨?_⟩⟩
                have HU := HT9.out
                rw [← EX.out] at HU
                rw [List.map_append, List.length_append, List.length_singleton]
                exact (by (with_reducible repeat (first | refine TSt.drewN ?_ _ | refine TSt.drew ?_)); exact HU)
            · have c9 : ((n : Int) == 0) = false := Bool.eq_false_iff.2 c8
              go_wp2
              go_roundg k1
              case measure => omega
              case rel => exact ⟨i + 1, σ, Av, cv, (by first | exact congrArg (Value.int .i64) HW1.out | (rw [HW1.out]; done) | (rw [HW1.out]; rfl)), rfl, ⟨by have := HI.out; omega, by have := HI.out; omega⟩, ⟨by rw [HG.out, if_neg c8, List.append_nil]⟩, ⟨(by (with_reducible repeat (first | refine TSt.drewN ?_ _ | refine TSt.drew ?_)); exact HT.out)⟩⟩
    · have p1 : decide ((i : Int) < (Cs.length : Int)) = false := decide_eq_false (by omega)
      have p1n : decide (i < Cs.length) = false := decide_eq_false (by omega)
      have HG := Aside0.mk (show σ = (List.finRange Cs.length).filter (fun j => times_none (times L Cs[j] : Int) (L.length : Int)) from by
        rw [HP.out, List.take_of_length_le (by simp; omega)])
      have HQ := Aside0.mk (show σ.map (fun i => Cs[i]) = r from by
        rw [HG.out, ← HF.out]; exact filter_fin (fun x => times_none (times L x : Int) (L.length : Int)) Cs)
      have HD := Aside0.mk (show σ.Nodup from by rw [HG.out]; exact (List.nodup_finRange _).filter _)
      clear hlt
      go_wp2
      go_ret
      have HU := HE.out _ _ σ HD.out HT.out
      rw [HQ.out] at HU
      exact ⟨_, rfl, HU, HT.out.B⟩
def spec_lcTimes.f (a0_0 : Int) (a0_1 : Int) (l0_2 : List Int) (a1 : Bool) : Option (List (List Int)) := if a1 = true then spec_lcTimes_true.f a0_0 a0_1 l0_2 else spec_lcTimes_false.f a0_0 a0_1 l0_2
theorem spec_lcTimes.calls (a0_0 a0_1 : Int) (A0_2 : Option Addr) (c0_2 : Nat) (l0_2 : List Int) (a1 : Bool) (r : List (List Int)) (w : World) (hr0_2 : Kd.C (Kd.int .i64) w A0_2 l0_2.length l0_2) (hc0_2 : l0_2.length ≤ c0_2) (h : spec_lcTimes.f a0_0 a0_1 l0_2 a1 = some r) :
    Calls Try.prog 108 #[.agg #[.int .i64 a0_0, .int .i64 a0_1, .slice A0_2 l0_2.length c0_2], .bool a1] w fun e w' => ∃ v0_ : Value, e = .returned (v0_) ∧ Kd.S (Kd.slice 3 (Kd.int .i64)) 24 w' w.heap.size (fun _ => True) v0_ r ∧ Below w.heap.size w w' := by
  cases a1 with
  | true => exact spec_lcTimes_true.calls a0_0 a0_1 A0_2 c0_2 l0_2 r w hr0_2 hc0_2 h
  | false => exact spec_lcTimes_false.calls a0_0 a0_1 A0_2 c0_2 l0_2 r w hr0_2 hc0_2 h
end Go.Proofs.Ytgnmcfoenmfhcaa.Q
end
section
namespace Go.Proofs.Ytgnmcfoenmfhcaa.Q
open Go.RowKit Go.Proofs.YtgnmcfoenmfhcaaW.PrintWords Go.Proofs.YtgnmcfoenmfhcaaW.PrintLast Go.Proofs.YtgnmcfoenmfhcaaW.PrintMore
attribute [local go_sem] max2_int min2_int max_two min_two max_three min_three max_four min_four   -- for this text's walks alone
set_option linter.unusedVariables false
set_option linter.unusedSimpArgs false
def spec_UselessCells.f (k : Nat) (a0_0 : Int) (a0_1 : Int) (l0_2 : List Int) : Option ((List (List Int)) × Bool) := (spec_boGood.f k a0_0 a0_1 l0_2).bind fun t102 => (if t102 = true then ((spec_lcTimes.f a0_0 a0_1 l0_2 false).bind fun t103 => (some (t103, true))) else (some (([] : List (List Int)), false)))
set_option maxHeartbeats 8000000 in
set_option maxRecDepth 100000 in
theorem spec_UselessCells.calls (k : Nat) (a0_0 : Int) (a0_1 : Int) (A0_2 : Option Addr) (c0_2 : Nat) (l0_2 : List Int) (r1 : List (List Int)) (r2 : Bool) (w : World) (hr0_2 : Kd.C (Kd.int .i64) w A0_2 l0_2.length l0_2) (hc0_2 : l0_2.length ≤ c0_2) (h : spec_UselessCells.f k a0_0 a0_1 l0_2 = some (r1, r2)) :
    Calls Try.prog 59 #[.agg #[.int .i64 a0_0, .int .i64 a0_1, .slice A0_2 l0_2.length c0_2]] w fun e w' => ∃ v0_ : Value, e = .returned (.tuple #[v0_, .bool r2]) ∧ Kd.S (Kd.slice 3 (Kd.int .i64)) 24 w' w.heap.size (fun _ => True) v0_ r1 ∧ Below w.heap.size w w' := by
  have hu26 := Try.underlying26
  have HR0_2 := Aside0.mk hr0_2
  have HC0_2 := Aside0.mk hc0_2
  clear hr0_2 hc0_2
  have HB := Aside0.mk (Below.refl w.heap.size w)
  have H : ((spec_boGood.f k a0_0 a0_1 l0_2).bind fun t102 => (if t102 = true then ((spec_lcTimes.f a0_0 a0_1 l0_2 false).bind fun t103 => (some (t103, true))) else (some (([] : List (List Int)), false)))) = some (r1, r2) := h
  clear h
  replace H := Option.bind_eq_some_iff.mp H
  obtain ⟨t102, A20, H⟩ := H
  replace H : (if t102 = true then ((spec_lcTimes.f a0_0 a0_1 l0_2 false).bind fun t103 => (some (t103, true))) else (some (([] : List (List Int)), false))) = some (r1, r2) := H
  have A2 := Aside0.mk A20
  clear A20
  by_cases c3 : t102 = true
  · subst c3
    have H1 : ((spec_lcTimes.f a0_0 a0_1 l0_2 false).bind fun t103 => (some (t103, true))) = some (r1, r2) := by rw [if_pos rfl] at H; exact H
    clear H
    have H := H1
    clear H1
    replace H := Option.bind_eq_some_iff.mp H
    obtain ⟨t103, A40, H⟩ := H
    replace H : (some (t103, true)) = some (r1, r2) := H
    have A4 := Aside0.mk A40
    clear A40
    simp only [Option.some.injEq, Prod.mk.injEq] at H
    obtain ⟨rfl, rfl⟩ := H
    go_enter Try.func59, Try.ntmps59
    go_wp2_with (first | ((with_reducible refine gate_dst (N := 1) rfl ?_); refine box_event ?hg (N := 1) ?hd (cs := #[.int .i64 a0_0, .int .i64 a0_1, .slice A0_2 l0_2.length c0_2]) (t := 26) ?hr ?_; (case hd => rfl); (case hg => rfl); (case hr => first | (go_simp; done) | (go_simp; rfl)); intro gb101 hg w5 hbox hb; have n0_ := Aside0.mk (below_step (by repeat (first | (with_reducible first | exact HB.out | apply below_alloc | apply pw_below_drewN | apply below_drew1) | exact HB.out)) hb); have n1_ := Aside0.mk (hbox); have n2_ := Aside0.mk ((by rw [hg]; exact (below_size (by repeat (first | (with_reducible first | exact HB.out | apply below_alloc | apply pw_below_drewN | apply below_drew1) | exact HB.out))) : w.heap.size ≤ gb101)); have n3_ := Aside0.mk ((by rw [hg]; exact (below_size (by repeat (first | (with_reducible first | exact HB.out | apply below_alloc | apply pw_below_drewN | apply below_drew1) | exact HB.out))) : w.heap.size ≤ gb101)); clear HB; have HB := n0_; have BK101 := n1_; have GW101 := n2_; have GE101 := n3_; clear n0_ n1_ n2_ n3_; clear hb hbox hg; have hcz6_0 : w5.cell? ⟨gb101, 0, none⟩ = some (.int .i64 a0_0) := (blk_cell BK101.out 0).trans rfl; have hcz6_1 : w5.cell? ⟨gb101, 1, none⟩ = some (.int .i64 a0_1) := (blk_cell BK101.out 1).trans rfl; have hcz6_2 : w5.cell? ⟨gb101, 2, none⟩ = some (.slice A0_2 l0_2.length c0_2) := (blk_cell BK101.out 2).trans rfl; have hfz6_0 := blk_frozen BK101.out 0; have hfz6_1 := blk_frozen BK101.out 1; have hfz6_2 := blk_frozen BK101.out 2) | ((with_reducible refine gate_callee (f := 76) rfl ?_); refine goesL_ (some 5) rfl rfl Try.func76 (by kernel_rfl) rfl #[.agg #[.int .i64 a0_0, .int .i64 a0_1, .slice A0_2 l0_2.length c0_2]] rfl (by (try simp only [List.map_toArray, List.map_cons, List.map_nil]); first | done | rfl | (simp only [List.length_drop, List.length_take]; rfl)) ?_; (with_reducible refine (spec_boGood.calls k a0_0 a0_1 _ _ l0_2 true _ ?side1 ?side2 A2.out).mono ?_); (case side1 => repeat (first | exact (Kd.C_below HR0_2.out HB.out) | (with_reducible refine Kd.C_alloc ?_ _) | (with_reducible refine Kd.C_drewN ?_ _) | (with_reducible refine Kd.C_drew ?_))); (case side2 => exact HC0_2.out); rintro e w7 ⟨rfl, hb⟩; refine ⟨_, rfl, ?_⟩; have n0_ := Aside0.mk (blk_below (g := gb101) (o := .cells #[.int .i64 a0_0, .int .i64 a0_1, .slice A0_2 l0_2.length c0_2] 26 (0, 0)) (by (with_reducible repeat (first | refine blk_drewN ?_ _ | refine blk_drew ?_ | refine blk_alloc ?_ _)); exact BK101.out) hb); have n1_ := Aside0.mk (below_step (by repeat (first | (with_reducible first | exact HB.out | apply below_alloc | apply pw_below_drewN | apply below_drew1 | refine below_set ?_ GE101.out) | exact HB.out)) hb); clear BK101; clear HB; have BK101 := n0_; have HB := n1_; clear n0_ n1_; (try clear hb); (try clear hb2); (try clear hk); (try clear hi); have hcz8_0 : w7.cell? ⟨gb101, 0, none⟩ = some (.int .i64 a0_0) := (blk_cell BK101.out 0).trans rfl; have hcz8_1 : w7.cell? ⟨gb101, 1, none⟩ = some (.int .i64 a0_1) := (blk_cell BK101.out 1).trans rfl; have hcz8_2 : w7.cell? ⟨gb101, 2, none⟩ = some (.slice A0_2 l0_2.length c0_2) := (blk_cell BK101.out 2).trans rfl; have hfz8_0 := blk_frozen BK101.out 0; have hfz8_1 := blk_frozen BK101.out 1; have hfz8_2 := blk_frozen BK101.out 2) | ((with_reducible refine gate_callee (f := 108) rfl ?_); refine goesL_ (some 8) rfl rfl Try.func108 (by kernel_rfl) rfl #[.agg #[.int .i64 a0_0, .int .i64 a0_1, .slice A0_2 l0_2.length c0_2], .bool false] rfl (by (try simp only [List.map_toArray, List.map_cons, List.map_nil]); first | done | rfl | (simp only [List.length_drop, List.length_take]; rfl)) ?_; (with_reducible refine (spec_lcTimes.calls a0_0 a0_1 _ _ l0_2 false t103 _ ?side1 ?side2 A4.out).mono ?_); (case side1 => repeat (first | exact (Kd.C_below HR0_2.out HB.out) | (with_reducible refine Kd.C_alloc ?_ _) | (with_reducible refine Kd.C_drewN ?_ _) | (with_reducible refine Kd.C_drew ?_))); (case side2 => exact HC0_2.out); rintro e w9 ⟨v104, rfl, ho0, hb⟩; refine ⟨_, rfl, ?_⟩; have n0_ := Aside0.mk (Kd.S_lower ho0 (below_size (by repeat (first | (with_reducible first | exact HB.out | apply below_alloc | apply pw_below_drewN | apply below_drew1 | refine below_set ?_ GE101.out) | exact HB.out)))); have n1_ := Aside0.mk (blk_below (g := gb101) (o := .cells #[.int .i64 a0_0, .int .i64 a0_1, .slice A0_2 l0_2.length c0_2] 26 (0, 0)) (by (with_reducible repeat (first | refine blk_drewN ?_ _ | refine blk_drew ?_ | refine blk_alloc ?_ _)); exact BK101.out) hb); have n2_ := Aside0.mk (below_step (by repeat (first | (with_reducible first | exact HB.out | apply below_alloc | apply pw_below_drewN | apply below_drew1 | refine below_set ?_ GE101.out) | exact HB.out)) hb); clear BK101; clear HB; have HO105 := n0_; have BK101 := n1_; have HB := n2_; clear n0_ n1_ n2_; (try clear hb); (try clear hb2); (try clear hk); (try clear hi); (try clear ho0)))
    go_ret2
    exact ⟨_, by first | rfl | (simp [errW_none, errW_some] <;> rfl) | (simp [*, errW_none, errW_some] <;> rfl), by (with_reducible repeat (first | apply Kd.S_alloc | apply Kd.S_drewN | apply Kd.S_drew)); exact HO105.out, by repeat (first | (with_reducible first | exact HB.out | apply below_alloc | apply pw_below_drewN | apply below_drew1 | refine below_set ?_ GE101.out) | exact HB.out)⟩
  · replace c3 := Bool.eq_false_iff.mpr c3
    subst c3
    have H1 : (some (([] : List (List Int)), false)) = some (r1, r2) := by rw [if_neg (show ¬ (false = true) by decide)] at H; exact H
    clear H
    have H := H1
    clear H1
    simp only [Option.some.injEq, Prod.mk.injEq] at H
    obtain ⟨rfl, rfl⟩ := H
    go_enter Try.func59, Try.ntmps59
    go_wp2_with (first | ((with_reducible refine gate_dst (N := 1) rfl ?_); refine box_event ?hg (N := 1) ?hd (cs := #[.int .i64 a0_0, .int .i64 a0_1, .slice A0_2 l0_2.length c0_2]) (t := 26) ?hr ?_; (case hd => rfl); (case hg => rfl); (case hr => first | (go_simp; done) | (go_simp; rfl)); intro gb101 hg w10 hbox hb; have n0_ := Aside0.mk (below_step (by repeat (first | (with_reducible first | exact HB.out | apply below_alloc | apply pw_below_drewN | apply below_drew1) | exact HB.out)) hb); have n1_ := Aside0.mk (hbox); have n2_ := Aside0.mk ((by rw [hg]; exact (below_size (by repeat (first | (with_reducible first | exact HB.out | apply below_alloc | apply pw_below_drewN | apply below_drew1) | exact HB.out))) : w.heap.size ≤ gb101)); have n3_ := Aside0.mk ((by rw [hg]; exact (below_size (by repeat (first | (with_reducible first | exact HB.out | apply below_alloc | apply pw_below_drewN | apply below_drew1) | exact HB.out))) : w.heap.size ≤ gb101)); clear HB; have HB := n0_; have BK101 := n1_; have GW101 := n2_; have GE101 := n3_; clear n0_ n1_ n2_ n3_; clear hb hbox hg; have hcz11_0 : w10.cell? ⟨gb101, 0, none⟩ = some (.int .i64 a0_0) := (blk_cell BK101.out 0).trans rfl; have hcz11_1 : w10.cell? ⟨gb101, 1, none⟩ = some (.int .i64 a0_1) := (blk_cell BK101.out 1).trans rfl; have hcz11_2 : w10.cell? ⟨gb101, 2, none⟩ = some (.slice A0_2 l0_2.length c0_2) := (blk_cell BK101.out 2).trans rfl; have hfz11_0 := blk_frozen BK101.out 0; have hfz11_1 := blk_frozen BK101.out 1; have hfz11_2 := blk_frozen BK101.out 2) | ((with_reducible refine gate_callee (f := 76) rfl ?_); refine goesL_ (some 5) rfl rfl Try.func76 (by kernel_rfl) rfl #[.agg #[.int .i64 a0_0, .int .i64 a0_1, .slice A0_2 l0_2.length c0_2]] rfl (by (try simp only [List.map_toArray, List.map_cons, List.map_nil]); first | done | rfl | (simp only [List.length_drop, List.length_take]; rfl)) ?_; (with_reducible refine (spec_boGood.calls k a0_0 a0_1 _ _ l0_2 false _ ?side1 ?side2 A2.out).mono ?_); (case side1 => repeat (first | exact (Kd.C_below HR0_2.out HB.out) | (with_reducible refine Kd.C_alloc ?_ _) | (with_reducible refine Kd.C_drewN ?_ _) | (with_reducible refine Kd.C_drew ?_))); (case side2 => exact HC0_2.out); rintro e w12 ⟨rfl, hb⟩; refine ⟨_, rfl, ?_⟩; have n0_ := Aside0.mk (blk_below (g := gb101) (o := .cells #[.int .i64 a0_0, .int .i64 a0_1, .slice A0_2 l0_2.length c0_2] 26 (0, 0)) (by (with_reducible repeat (first | refine blk_drewN ?_ _ | refine blk_drew ?_ | refine blk_alloc ?_ _)); exact BK101.out) hb); have n1_ := Aside0.mk (below_step (by repeat (first | (with_reducible first | exact HB.out | apply below_alloc | apply pw_below_drewN | apply below_drew1 | refine below_set ?_ GE101.out) | exact HB.out)) hb); clear BK101; clear HB; have BK101 := n0_; have HB := n1_; clear n0_ n1_; (try clear hb); (try clear hb2); (try clear hk); (try clear hi)))
    go_ret2
    exact ⟨_, by first | rfl | (simp [errW_none, errW_some] <;> rfl) | (simp [*, errW_none, errW_some] <;> rfl), by first | exact Kd.S_nil _ _ _ _ _ | exact Kd.N_nil _ _ _ _ _ | exact Kd.V_nil _ _ _ _ _ | exact Kd.Q_nil _ _ _ _ _ | exact Kd.R_nil _ _ _ _ _, by repeat (first | (with_reducible first | exact HB.out | apply below_alloc | apply pw_below_drewN | apply below_drew1 | refine below_set ?_ GE101.out) | exact HB.out)⟩
end Go.Proofs.Ytgnmcfoenmfhcaa.Q
end
section
namespace Go.Proofs.Ytgnmcfoenmfhcaa.Q
set_option linter.unusedVariables false
set_option linter.unusedSimpArgs false
open Go.RowKit Go.Proofs.YtgnmcfoenmfhcaaW.PrintWords Go.Proofs.YtgnmcfoenmfhcaaW.PrintLast Go.Proofs.YtgnmcfoenmfhcaaW.PrintMore
open Go.Proofs.YtgnmcfoenmfhcaaL Go.Proofs.Ytgnmcfoenmfhcaa.LawK Go.Proofs.Ytgnmcfoenmfhcaa.BoardK Go.Proofs.Ytgnmcfoenmfhcaa.LinesK Go.Proofs.Ytgnmcfoenmfhcaa.AllK Go.Proofs.Ytgnmcfoenmfhcaa.TimesK
theorem ans_UselessCells (r c : Int) (l : List Int) (hl : l.length ≤ 1048576) : ∃ (rows : List (List Int)) (ok : Bool), rows.length ≤ 1000000 ∧ (∀ x ∈ rows, x.length ≤ 1000) ∧ (∃ k, spec_UselessCells.f k r c l = some (rows, ok)) ∧ impl_UselessCells.f r c l = some (rows, ok) := by
  by_cases hb : isBoardB r c l = true
  · obtain ⟨R, C, rfl, rfl, hlR, h1R, hR, h1C, hC, hbits⟩ := board_of hb
    have hlen := cellsS_len l hC R 0
    obtain ⟨rows, hrows⟩ : ∃ rows, rows = (cellsS l ((C : Int).toNat) 0 l.length).filter (fun x => times_none (times (largestS l ((C : Int).toNat) l.length) x : Int) ((largestS l ((C : Int).toNat) l.length).length : Int)) := ⟨_, rfl⟩
    refine ⟨rows, true, ?_, ?_, Ev.rounds ?_, ?_⟩
    · rw [hrows]
      refine Nat.le_trans (List.length_filter_le _ _) ?_
      rw [Int.toNat_natCast, hlR]
      omega
    · intro x hx
      rw [hrows, Int.toNat_natCast, hlR] at hx
      obtain ⟨r0, c0, e, _⟩ := cellsS_form (List.mem_filter.1 hx).1
      rw [e]
      simp
    · unfold spec_UselessCells.f
      refine Ev.bind (boGood R C (by omega)) ?_
      refine Ev.congr (fun k => by rw [if_pos hb, spec_lcTimes.f]; simp only [Bool.false_eq_true, if_true, if_false]; rw [spec_lcTimes_false.f, if_pos hb, ← hrows, Option.bind_some]) (Ev.now _)
    · unfold impl_UselessCells.f
      rw [impl_IsBoard.f, Option.bind_some, if_pos hb, impl_Board_byLargest_at_impl_UselessCells_1.f, if_pos hb, ← hrows, Option.bind_some]
  · refine ⟨[], false, by simp, by simp, Ev.rounds ?_, ?_⟩
    · unfold spec_UselessCells.f
      refine Ev.bind (boGood r c (by omega)) ?_
      exact Ev.congr (fun k => by rw [if_neg hb]) (Ev.now _)
    · unfold impl_UselessCells.f
      rw [impl_IsBoard.f, Option.bind_some, if_neg hb]
end Go.Proofs.Ytgnmcfoenmfhcaa.Q
end
