/- Leads of rows: the elimination, in plain lists; what the world holds while it goes on. No conditions. -/
import Derived.Test.YtlhblnphfpijkaaL
import Derived.Outline
import Derived.Lib.Hide
namespace Go.Proofs.Ytlhblnphfpijkaa.LeadsK
set_option linter.unusedVariables false
set_option linter.unusedSectionVars false
open Go.RowKit Go.Proofs.YtlhblnphfpijkaaW.PrintWords Go.Proofs.YtlhblnphfpijkaaW.PrintLast Go.Proofs.YtlhblnphfpijkaaW.PrintMore
open Go.Proofs.YtlhblnphfpijkaaL
/-- Some places of a row, with a multiple of another one added. -/
def elimS (q by_ : Int) (other : List Int) : Nat → Nat → List Int → List Int
  | 0, _, x => x
  | d + 1, c, x => elimS q by_ other d (c + 1) (x.set c (Int.tmod (x.getD c 0 + (q - by_) * other.getD c 0) q))
/-- A row brought to steps by rows that are: the leads e that are not -1 are cleared. -/
def red (q : Int) (n : Nat) : List (List Int) → List Int → List Int → List Int
  | o :: ds, e :: es, x => red q n ds es (if e = -1 then x else elimS q (Int.tmod (x.getD e.toNat 0 * o.getD e.toNat 0) q) o n 0 x)
  | _, _, x => x
/-- The first place from i on that is not 0, or -1. -/
def leadOf : List Int → Int → Int
  | [], _ => -1
  | x :: t, i => if x = 0 then leadOf t (i + 1) else i
def leadsF (q : Int) (n : Nat) : List (List Int) → List (List Int) → List Int → List Int
  | [], _, out => out
  | row :: t, done, out => leadsF q n t (done ++ [red q n done out row]) (out ++ [leadOf (red q n done out row) 0])
/-- A row of n digits. -/
structure Dig (q : Int) (n : Nat) (x : List Int) : Prop where
  len : x.length = n
  dig : ∀ i, 0 ≤ x.getD i 0 ∧ x.getD i 0 < q
theorem set_getD (l : List Int) (p i : Nat) (x : Int) (hp : p < l.length) : (l.set p x).getD i 0 = if i = p then x else l.getD i 0 := by
  rw [List.getD_eq_getElem?_getD, List.getElem?_set, List.getD_eq_getElem?_getD]
  by_cases h : p = i
  · subst h; simp [hp]
  · rw [if_neg h, if_neg (fun e => h e.symm)]
section
variable {q : Int} (hq : 2 ≤ q ∧ q ≤ 3) {n : Nat}
include hq
theorem mod_in {a : Int} (h : 0 ≤ a) : 0 ≤ Int.tmod a q ∧ Int.tmod a q < q := by
  rw [Int.tmod_eq_emod_of_nonneg h]
  exact ⟨Int.emod_nonneg _ (by omega), Int.emod_lt_of_pos _ (by omega)⟩
theorem mul_in {a b : Int} (ha : 0 ≤ a ∧ a ≤ 3) (hb : 0 ≤ b ∧ b ≤ 3) : 0 ≤ a * b ∧ a * b ≤ 9 := by
  obtain rfl | rfl | rfl | rfl : a = 0 ∨ a = 1 ∨ a = 2 ∨ a = 3 := by omega
  all_goals omega
theorem Dig.step {by_ : Int} (hb : 0 ≤ by_ ∧ by_ < q) {o x : List Int} (ho : Dig q n o) (hx : Dig q n x) {c : Nat} (hc : c < n) : Dig q n (x.set c (Int.tmod (x.getD c 0 + (q - by_) * o.getD c 0) q)) := by
  refine ⟨by rw [List.length_set]; exact hx.len, fun i => ?_⟩
  rw [set_getD _ _ _ _ (by rw [hx.len]; exact hc)]
  by_cases e : i = c
  · rw [if_pos e]
    have h1 := hx.dig c
    have h2 := ho.dig c
    have h3 := mul_in hq (a := q - by_) (b := o.getD c 0) (by omega) (by omega)
    exact mod_in hq (by omega)
  · rw [if_neg e]; exact hx.dig i
theorem Dig.elim {by_ : Int} (hb : 0 ≤ by_ ∧ by_ < q) {o : List Int} (ho : Dig q n o) : ∀ (d c : Nat) (x : List Int), c + d ≤ n → Dig q n x → Dig q n (elimS q by_ o d c x)
  | 0, c, x, _, hx => hx
  | d + 1, c, x, hc, hx => by rw [elimS]; exact Dig.elim hb ho d (c + 1) _ (by omega) (Dig.step hq hb ho hx (by omega))
theorem by_in {o x : List Int} (ho : Dig q n o) (hx : Dig q n x) (e : Nat) : 0 ≤ Int.tmod (x.getD e 0 * o.getD e 0) q ∧ Int.tmod (x.getD e 0 * o.getD e 0) q < q := by
  have h1 := hx.dig e
  have h2 := ho.dig e
  exact mod_in hq (mul_in hq (by omega) (by omega)).1
theorem Dig.red : ∀ (ds : List (List Int)) (es : List Int) (x : List Int), (∀ o ∈ ds, Dig q n o) → Dig q n x → Dig q n (LeadsK.red q n ds es x)
  | [], es, x, _, hx => by unfold LeadsK.red; exact hx
  | o :: ds, [], x, _, hx => by unfold LeadsK.red; exact hx
  | o :: ds, e :: es, x, hd, hx => by
    rw [LeadsK.red]
    refine Dig.red ds es _ (fun o' h => hd o' (List.mem_cons_of_mem _ h)) ?_
    have ho := hd o List.mem_cons_self
    split
    · exact hx
    · exact Dig.elim hq (by_in hq ho hx _) ho n 0 x (by omega) hx
/-- Nothing is added: nothing turns. -/
theorem elim_zero {o : List Int} (ho : Dig q n o) : ∀ (d c : Nat) (x : List Int), c + d ≤ n → Dig q n x → elimS q 0 o d c x = x
  | 0, c, x, _, hx => rfl
  | d + 1, c, x, hc, hx => by
    have h1 := hx.dig c
    have h2 := ho.dig c
    have e : Int.tmod (x.getD c 0 + (q - 0) * o.getD c 0) q = x.getD c 0 := by
      have h3 := mul_in hq (a := q) (b := o.getD c 0) (by omega) (by omega)
      rw [Int.sub_zero, Int.tmod_eq_emod_of_nonneg (by omega), Int.add_mul_emod_self_left, Int.emod_eq_of_lt h1.1 h1.2]
    rw [elimS, e]
    have e2 : x.set c (x.getD c 0) = x := by
      have hc2 : c < x.length := by rw [hx.len]; omega
      rw [gD_lt _ _ hc2, List.set_getElem_self]
    rw [e2]
    exact elim_zero ho d (c + 1) x (by omega) hx
theorem red_skip {o x : List Int} (ho : Dig q n o) (hx : Dig q n x) {e : Int} (h : x.getD e.toNat 0 = 0) : elimS q (Int.tmod (x.getD e.toNat 0 * o.getD e.toNat 0) q) o n 0 x = x := by
  rw [h, Int.zero_mul, Int.zero_tmod]
  exact elim_zero hq ho n 0 x (by omega) hx
end
theorem leadOf_in : ∀ (x : List Int) (i : Int), 0 ≤ i → leadOf x i = -1 ∨ (0 ≤ leadOf x i ∧ leadOf x i < i + x.length)
  | [], i, _ => .inl rfl
  | a :: t, i, h => by
    rw [leadOf, List.length_cons]
    split
    · rcases leadOf_in t (i + 1) (by omega) with h1 | h1
      · exact .inl h1
      · exact .inr ⟨h1.1, by omega⟩
    · exact .inr ⟨h, by omega⟩
/-- Done rows and their leads. -/
structure WFs (q : Int) (n : Nat) (done : List (List Int)) (out : List Int) : Prop where
  len : out.length = done.length
  dig : ∀ o ∈ done, Dig q n o
  lead : ∀ e ∈ out, e = -1 ∨ (0 ≤ e ∧ e < n)
theorem WFs.snoc {q : Int} {n : Nat} {done : List (List Int)} {out x : List Int} (h : WFs q n done out) (hx : Dig q n x) : WFs q n (done ++ [x]) (out ++ [leadOf x 0]) := by
  refine ⟨by rw [List.length_append, List.length_append, h.len]; rfl, fun o ho => ?_, fun e he => ?_⟩
  · rcases List.mem_append.1 ho with ho | ho
    · exact h.dig o ho
    · rw [List.mem_singleton.1 ho]; exact hx
  · rcases List.mem_append.1 he with he | he
    · exact h.lead e he
    · rw [List.mem_singleton.1 he]
      have := leadOf_in x 0 (Int.le_refl _)
      rw [hx.len] at this
      omega
/-- What the world holds between two rows. -/
structure L0St (w0 : World) (vd vo : Value) (done : List (List Int)) (out : List Int) (w : World) : Prop where
  d : Kd.S (Kd.slice 3 (Kd.int .i64)) 22 w w0.heap.size (fun k => some k ≠ vo.ownBlock) vd done
  o : Kd.R (Kd.int .i64) 3 w w0.heap.size (fun _ => True) vo out
  B : Below w0.heap.size w0 w
/-- .. and while a row is worked off. -/
structure LSt (w0 : World) (vd vo vn : Value) (done : List (List Int)) (out x : List Int) (w : World) : Prop where
  d : Kd.S (Kd.slice 3 (Kd.int .i64)) 22 w w0.heap.size (fun k => some k ≠ vo.ownBlock ∧ some k ≠ vn.ownBlock) vd done
  o : Kd.R (Kd.int .i64) 3 w w0.heap.size (fun k => some k ≠ vn.ownBlock) vo out
  n : Kd.R (Kd.int .i64) 3 w w0.heap.size (fun _ => True) vn x
  B : Below w0.heap.size w0 w
section
variable {w0 w w1 : World} {vd vo vn v1 : Value} {done : List (List Int)} {out x : List Int}
theorem L0St.drewN (h : L0St w0 vd vo done out w) (m : Nat) : L0St w0 vd vo done out (w.drewN m) := ⟨Kd.S_drewN h.d m, Kd.R_drewN h.o m, pw_below_drewN h.B m⟩
theorem LSt.drewN (h : LSt w0 vd vo vn done out x w) (m : Nat) : LSt w0 vd vo vn done out x (w.drewN m) := ⟨Kd.S_drewN h.d m, Kd.R_drewN h.o m, Kd.R_drewN h.n m, pw_below_drewN h.B m⟩
theorem LSt.drew (h : LSt w0 vd vo vn done out x w) : LSt w0 vd vo vn done out x w.drew := ⟨Kd.S_drew h.d, Kd.R_drew h.o, Kd.R_drew h.n, below_drew1 h.B⟩
theorem L0St.below (h : L0St w0 vd vo done out w) (hb : Below w.heap.size w w1) : L0St w0 vd vo done out w1 := ⟨Kd.S_below h.d hb, Kd.R_below h.o hb, h.B.trans (hb.mono h.B.size)⟩
theorem LSt.below (h : LSt w0 vd vo vn done out x w) (hb : Below w.heap.size w w1) : LSt w0 vd vo vn done out x w1 := ⟨Kd.S_below h.d hb, Kd.R_below h.o hb, Kd.R_below h.n hb, h.B.trans (hb.mono h.B.size)⟩
theorem L0St.fresh (h : L0St w0 vd vo done out w) (hr : Kd.R (Kd.int .i64) 3 w1 w.heap.size (fun _ => True) vn x) (hb : Below w.heap.size w w1) : LSt w0 vd vo vn done out x w1 := by
  have hn : ∀ k, k < w.heap.size → some k ≠ vn.ownBlock := fun k hk e => by have := Kd.R_base hr k e.symm; omega
  refine ⟨Kd.S_below (Kd.S_mono (Kd.S_bound h.d) (fun k hk => ⟨hk.1, hn k hk.2.2.1⟩)) hb, Kd.R_below (Kd.R_mono (Kd.R_bound h.o) (fun k hk => hn k hk.2.2.1)) hb, Kd.R_lower hr h.B.size, h.B.trans (hb.mono h.B.size)⟩
theorem LSt.put {g n c : Nat} (h : LSt w0 vd vo (.slice (some ⟨g, 0, none⟩) n c) done out x w) (j : Nat) (y : Int) : LSt w0 vd vo (.slice (some ⟨g, 0, none⟩) n c) done out (x.set j y) (w.setCell ⟨g, j, none⟩ (.int .i64 y)) := by
  refine ⟨Kd.S_far (p := ⟨g, j, none⟩) h.d (fun k hk e => hk.2 (by rw [e]; rfl)) _, Kd.R_far (p := ⟨g, j, none⟩) h.o (fun k hk e => hk (by rw [e]; rfl)) _, ?_, h.B.setCell (by have := Kd.R_base h.n g rfl; exact this) _⟩
  have := Kd.R_putn h.n (j : Int) y
  rw [Int.toNat_natCast] at this
  exact this
theorem LSt.append (h : LSt w0 vd vo vn done out x w) (hs : Kd.S (Kd.slice 3 (Kd.int .i64)) 22 w1 w0.heap.size (fun k => some k ≠ vo.ownBlock) v1 (done ++ [x])) (hb : Below w0.heap.size w0 w1) (hg : w.grownBy w1 vd.ownBlock) : L0St w0 v1 vo (done ++ [x]) out w1 :=
  ⟨hs, Kd.R_mono (Kd.R_grown2 h.o rfl hg (fun k hk => ((Kd.S_R h.d).1 k hk).1)) (fun _ _ => trivial), hb⟩
theorem LSt.okp (h : LSt w0 vd vo vn done out x w) : ∀ k, some k = vn.ownBlock → some k ≠ vo.ownBlock ∧ some k ≠ vd.ownBlock := fun k hk => ⟨fun e => h.o.1 k e.symm hk, fun e => ((Kd.S_R h.d).1 k e.symm).2 hk⟩
theorem LSt.frsh (h : LSt w0 vd vo vn done out x w) : ∀ k, w.heap.size ≤ k → some k ≠ vo.ownBlock := fun k hk e => by have := Kd.R_lt h.o k e.symm; omega
theorem L0St.lead {e : Int} (h : L0St w0 vd vo done out w) (hr : Kd.R (Kd.int .i64) 3 w1 w0.heap.size (fun _ => True) v1 (out ++ [e])) (hb : Below w0.heap.size w0 w1) (hg : w.grownBy w1 vo.ownBlock) (hat : v1.ownBlock = vo.ownBlock ∨ ∃ b, v1.ownBlock = some b ∧ w.heap.size ≤ b) : L0St w0 vd v1 done (out ++ [e]) w1 := by
  refine ⟨Kd.S_mono (Kd.S_grown (Kd.S_bound h.d) hg (fun k hk => hk.1)) (fun k hk => ?_), hr, hb⟩
  rcases hat with e1 | ⟨b, e1, e2⟩
  · rw [e1]; exact hk.1
  · rw [e1]; intro e3; injection e3 with e3; have := hk.2.2.1; omega
end
end Go.Proofs.Ytlhblnphfpijkaa.LeadsK
