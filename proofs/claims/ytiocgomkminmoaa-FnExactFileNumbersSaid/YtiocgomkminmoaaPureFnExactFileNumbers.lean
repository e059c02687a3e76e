/- The program's FileNumbers returns what the reference's returns, for all arguments. No conditions. -/
import Derived.Test.YtiocgomkminmoaaQlawsFnExactFileNumbers
import Derived.Test.YtiocgomkminmoaaHeights
namespace Go.Proofs.Ytiocgomkminmoaa.Pure
set_option linter.unusedVariables false
open Go.RowKit Go.Proofs.Ytiocgomkminmoaa.Q Go.Proofs.YtiocgomkminmoaaW.PrintWords Go.Proofs.YtiocgomkminmoaaW.PrintLast Go.Proofs.YtiocgomkminmoaaW.PrintMore
open Go.Proofs.YtiocgomkminmoaaL Go.Proofs.Ytiocgomkminmoaa.LawK Go.Proofs.Ytiocgomkminmoaa.BoardK Go.Proofs.Ytiocgomkminmoaa.HeightsK

theorem wrapAdd (a b : Int) : wrap64 (a + wrap64 b) = wrap64 (a + b) := by unfold wrap64; omega
/-- One column more: what a polynomial times (1 + h x) is, from the coefficient i on. -/
def timesF (h : Int) (o : List Int) : Nat → Nat → List Int → List Int
  | 0, _, x => x
  | d + 1, i, x =>
    let y := x.set i (wrap64 (x.getD i 0 + o.getD i 0))
    timesF h o d (i + 1) (y.set (i + 1) (wrap64 (y.getD (i + 1) 0 + h * o.getD i 0)))
def times (h : Int) (o : List Int) : List Int := timesF h o o.length 0 (List.replicate (o.length + 1) 0)
theorem timesF_length (h : Int) (o : List Int) : ∀ d i x, (timesF h o d i x).length = x.length
  | 0, _, x => rfl
  | d + 1, i, x => by rw [timesF, timesF_length]; simp
theorem times_length (h : Int) (o : List Int) : (times h o).length = o.length + 1 := by rw [times, timesF_length]; simp
def numbersF : List Int → List Int → List Int
  | [], o => o
  | h :: t, o => numbersF t (times h o)
theorem numbersF_length : ∀ t o, (numbersF t o).length = o.length + t.length
  | [], o => by simp [numbersF]
  | h :: t, o => by rw [numbersF, numbersF_length, times_length, List.length_cons]; omega

theorem spec_l1 (h : Int) {o hs : List Int} (i0 : Int) (ho : o.length ≤ 100) {g : List Int × Bool} : ∀ (d i : Nat) (x : List Int), i + d = o.length → x.length = o.length + 1 →
    Ev (fun k => spec_FileNumbers.l0 k (timesF h o d i x) hs (hs.length : Int) (wrap64 (i0 + 1))) g → Ev (fun k => spec_FileNumbers.l1 k h x hs (hs.length : Int) i0 o (o.length : Int) i) g
  | 0, i, x, hi, hx, next => by
    refine Ev.step (fun k => ?_) next
    rw [spec_FileNumbers.l1, if_neg (by omega)]; rfl
  | d + 1, i, x, hi, hx, next => by
    have h1 : wrap64 ((i : Int) + 1) = ((i + 1 : Nat) : Int) := by rw [w64 (by omega) (by omega)]; rfl
    have hi2 : i < o.length := by omega
    rw [timesF] at next
    refine Ev.step (fun k => ?_) (spec_l1 h i0 ho d (i + 1) _ (by omega) (by simp [hx]) next)
    rw [spec_FileNumbers.l1, if_pos (by omega), if_pos (by omega), if_pos (by omega), if_pos (by omega), Option.bind_some, h1, if_pos (by omega), if_pos (by omega), rd_nat, rd_nat, rd_nat, wrapAdd, Int.toNat_natCast, Int.toNat_natCast]
theorem spec_l0 {hs : List Int} (hhs : hs.length ≤ 6) : ∀ (d i : Nat) (o : List Int), i + d = hs.length → o.length ≤ 20 + i →
    Ev (fun k => spec_FileNumbers.l0 k o hs (hs.length : Int) i) (numbersF (hs.drop i) o, true)
  | 0, i, o, hi, ho => by
    refine Ev.step (f := fun _ => some (o, true)) (fun k => ?_) (evEq (Ev.now _) (by rw [List.drop_eq_nil_of_le (by omega)]; rfl))
    rw [spec_FileNumbers.l0, if_neg (by omega)]
  | d + 1, i, o, hi, ho => by
    have h1 : wrap64 ((i : Int) + 1) = ((i + 1 : Nat) : Int) := by rw [w64 (by omega) (by omega)]; rfl
    have h2 : wrap64 ((o.length : Int) + 1) = ((o.length + 1 : Nat) : Int) := by rw [w64 (by omega) (by omega)]; rfl
    have hi2 : i < hs.length := by omega
    rw [List.drop_eq_getElem_cons hi2, numbersF]
    have ih := spec_l0 hhs d (i + 1) (times hs[i] o) (by omega) (by rw [times_length]; omega)
    refine Ev.step (fun k => ?_) (spec_l1 hs[i] (hs := hs) (i : Int) (o := o) (by omega) o.length 0 (List.replicate (o.length + 1) 0) (by omega) (by simp) (Ev.congr (fun k => by rw [h1]; rfl) ih))
    rw [spec_FileNumbers.l0, if_pos (by omega), if_pos (by omega), if_pos (by omega), h2, if_pos (by omega), if_pos (by omega), rd_lt _ _ hi2, Int.toNat_natCast]; rfl

theorem impl_two (h : Int) {o : List Int} (ho : o.length ≤ 100) {i : Nat} (hi : i < o.length) (x : List Int) (hx : x.length = o.length + 1) {g : List Int}
    (next : Ev (fun k => impl_product.l0 k [1, h] ((x.set i (wrap64 (x.getD i 0 + o.getD i 0))).set (i + 1) (wrap64 ((x.set i (wrap64 (x.getD i 0 + o.getD i 0))).getD (i + 1) 0 + h * o.getD i 0))) o (o.length : Int) ((i + 1 : Nat) : Int)) g) :
    Ev (fun k => impl_product.l0 k [1, h] x o (o.length : Int) i) g := by
  have h1 : wrap64 ((i : Int) + 1) = ((i + 1 : Nat) : Int) := by rw [w64 (by omega) (by omega)]; rfl
  have h0 : wrap64 ((i : Int) + 0) = ((i : Nat) : Int) := by rw [w64 (by omega) (by omega)]; omega
  have e1 : wrap64 (0 + 1) = 1 := by decide +kernel
  have e2 : wrap64 (1 + 1) = 2 := by decide +kernel
  have a0 : rd [1, h] 0 = 1 := rfl
  have a1 : rd [1, h] 1 = h := rfl
  refine Ev.step (fun k => by rw [impl_product.l0, if_pos (by omega), if_pos (by omega), if_pos (by omega)]) ?_
  refine Ev.step (fun k => by rw [impl_product.l1, if_pos (by simp), if_pos (by omega), if_pos (by simp), h0, if_pos (by omega), if_pos (by omega), a0, e1]) ?_
  refine Ev.step (fun k => by rw [impl_product.l1, if_pos (by simp), if_pos (by omega), if_pos (by simp), h1, if_pos (by omega), if_pos (by simp; omega), a1, e2]) ?_
  refine Ev.step (fun k => by rw [impl_product.l1, if_neg (by simp), h1]) ?_
  refine Ev.congr (fun k => ?_) next
  congr 1
  rw [rd_nat, rd_nat, rd_nat, Int.toNat_natCast, Int.toNat_natCast, wrapAdd, wrapAdd, Int.mul_one, Int.mul_comm h]
theorem impl_times (h : Int) {o : List Int} (ho : o.length ≤ 100) : ∀ (d i : Nat) (x : List Int), i + d = o.length → x.length = o.length + 1 →
    Ev (fun k => impl_product.l0 k [1, h] x o (o.length : Int) i) (timesF h o d i x)
  | 0, i, x, hi, hx => by
    refine Ev.step (f := fun _ => some x) (fun k => ?_) (Ev.now _)
    rw [impl_product.l0, if_neg (by omega)]
  | d + 1, i, x, hi, hx => by
    rw [timesF]
    exact impl_two h ho (by omega) x hx (impl_times h ho d (i + 1) _ (by omega) (by simp [hx]))
theorem impl_product (h : Int) {o : List Int} (ho : o.length ≤ 100) : Ev (fun k => impl_product.f k o [1, h]) (times h o) := by
  unfold impl_product.f times
  have e : wrap64 (wrap64 ((o.length : Int) + (([1, h] : List Int).length : Int)) - 1) = ((o.length + 1 : Nat) : Int) := by
    rw [show (([1, h] : List Int).length : Int) = 2 from rfl, w64 (n := (o.length : Int) + 2) (by omega) (by omega), w64 (by omega) (by omega)]; omega
  refine Ev.congr (fun k => by rw [e, if_pos (by omega), if_pos (by omega), Int.toNat_natCast]; rfl) (impl_times h ho o.length 0 _ (by omega) (by simp))
theorem impl_l0 {hs : List Int} (hhs : hs.length ≤ 6) : ∀ (d i : Nat) (o : List Int), i + d = hs.length → o.length ≤ 20 + i →
    Ev (fun k => impl_FileNumbers.l0 k o hs (hs.length : Int) i) (numbersF (hs.drop i) o, true)
  | 0, i, o, hi, ho => by
    refine Ev.step (f := fun _ => some (o, true)) (fun k => ?_) (evEq (Ev.now _) (by rw [List.drop_eq_nil_of_le (by omega)]; rfl))
    rw [impl_FileNumbers.l0, if_neg (by omega)]
  | d + 1, i, o, hi, ho => by
    have h1 : wrap64 ((i : Int) + 1) = ((i + 1 : Nat) : Int) := by rw [w64 (by omega) (by omega)]; rfl
    have hi2 : i < hs.length := by omega
    rw [List.drop_eq_getElem_cons hi2, numbersF]
    have ih := impl_l0 hhs d (i + 1) (times hs[i] o) (by omega) (by rw [times_length]; omega)
    refine Ev.step (fun k => by rw [impl_FileNumbers.l0, if_pos (by omega), if_pos (by omega), if_pos (by omega), rd_lt _ _ hi2]) ?_
    exact Ev.bind (impl_product hs[i] (o := o) (by omega)) (Ev.congr (fun k => by rw [h1]) ih)

def numbersAnswer (r c : Int) (l : List Int) : List Int × Bool := if isBoardB r c l then (numbersF (heights l r.toNat c.toNat) [1], true) else ([], false)
theorem numbers_length (r c : Int) (l : List Int) : (numbersAnswer r c l).1.length ≤ 100 := by
  unfold numbersAnswer
  by_cases hb : isBoardB r c l = true
  · obtain ⟨R, C, rfl, rfl, hl', h1, h2, h3, h4, hbb⟩ := board_of hb
    rw [if_pos hb]; simp only []; rw [numbersF_length, heights_length]; simp; omega
  · rw [if_neg hb]; simp
theorem spec_fileNumbers {r c : Int} {l : List Int} (hl : l.length ≤ 1048576) : Ev (fun k => spec_FileNumbers.f k r c l) (numbersAnswer r c l) := by
  unfold spec_FileNumbers.f numbersAnswer
  refine Ev.bind (boGood r c (by omega)) ?_
  by_cases hb : isBoardB r c l = true
  · rw [if_pos hb]
    refine Ev.congr (fun k => by rw [if_pos hb]) ?_
    obtain ⟨R, C, rfl, rfl, hl', h1, h2, h3, h4, hbb⟩ := board_of hb
    exact Ev.bind (spec_heights hb) (spec_l0 (by rw [heights_length]; omega) C 0 [1] (by rw [heights_length]; omega) (by simp))
  · rw [if_neg hb]
    exact Ev.congr (fun k => by rw [if_neg hb]) (Ev.now _)
theorem impl_fileNumbers {r c : Int} {l : List Int} : Ev (fun k => impl_FileNumbers.f k r c l) (numbersAnswer r c l) := by
  unfold impl_FileNumbers.f numbersAnswer impl_IsBoard.f
  by_cases hb : isBoardB r c l = true
  · rw [if_pos hb]
    refine Ev.congr (fun k => by rw [Option.bind_some, if_pos hb]) ?_
    obtain ⟨R, C, rfl, rfl, hl', h1, h2, h3, h4, hbb⟩ := board_of hb
    exact Ev.bind (impl_heights hb) (impl_l0 (by rw [heights_length]; omega) C 0 [1] (by rw [heights_length]; omega) (by simp))
  · rw [if_neg hb]
    exact Ev.congr (fun k => by rw [Option.bind_some, if_neg hb]) (Ev.now _)

theorem FnExactFileNumbers : laws_FnExactFileNumbers.Pure := by
  intro r c l _ _ _ hl8 _
  unfold laws_FnExactFileNumbers.f
  refine ends ?_
  refine Ev.congr (fun k => by rw [szBoard_f r c l hl8, Option.bind_some]) ?_
  by_cases hlb : l.length ≤ 1048576
  · have hn := numbers_length r c l
    refine Ev.congr (fun k => by rw [if_pos hlb, if_neg (by omega)]) ?_
    refine Ev.bind (toBoard r c hlb) (Ev.bind (spec_fileNumbers hlb) (Ev.bind (toBoard r c hlb) (Ev.bind impl_fileNumbers ?_)))
    refine Ev.bind (eqIntS (by simp only []; omega)) ?_
    refine Ev.congr (fun k => by rw [if_pos (by simp)]) ?_
    refine Ev.step (fun k => by rw [laws_FnExactFileNumbers.j0, if_neg (by simp)]) ?_
    refine Ev.bind (toBoard r c hlb) (Ev.bind (eqBoard r c (by simp; omega)) ?_)
    refine Ev.congr (fun k => by rw [if_pos rfl]) ?_
    refine Ev.bind (a := (1 + (l.length : Int), iota 1 l.length)) (show Ev (fun k => laws_markBoard.f k r c l 1) (1 + (l.length : Int), iota 1 l.length) by unfold laws_markBoard.f; exact Ev.bind (markIntS l (by omega) (by omega)) (Ev.now _)) ?_
    refine Ev.congr (fun k => by rw [if_neg (by simp; omega)]) ?_
    refine Ev.bind (eqIntS (by simp only []; omega)) ?_
    refine Ev.congr (fun k => by rw [if_pos (by simp)]) ?_
    refine Ev.step (fun k => by rw [laws_FnExactFileNumbers.j1, if_neg (by simp)]) ?_
    refine Ev.bind (markIntS _ (by omega) (by simp only []; omega)) ?_
    refine Ev.bind (heldIntS _ (by omega) (by simp only []; omega)) ?_
    refine Ev.congr (fun k => by rw [if_neg (by omega), if_pos rfl]) ?_
    refine Ev.bind (toBoard r c hlb) (Ev.bind impl_fileNumbers ?_)
    refine Ev.bind (eqIntS (by simp only []; omega)) ?_
    refine Ev.congr (fun k => by rw [if_pos (by simp)]) ?_
    refine Ev.step (fun k => by rw [laws_FnExactFileNumbers.j2, if_neg (by simp)]) ?_
    refine Ev.bind (heldIntS _ (by omega) (by simp only []; omega)) ?_
    exact Ev.congr (fun k => by rw [if_neg (by omega), if_pos rfl]) (Ev.now _)
  · exact Ev.congr (fun k => by rw [if_neg hlb, if_pos (by omega)]) (Ev.now _)

end Go.Proofs.Ytiocgomkminmoaa.Pure
