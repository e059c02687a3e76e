/- The program's IsFilePlacement returns what the reference's returns, for all arguments. No conditions. -/
import Derived.Test.YtiocgomkminmoaaQlawsFnExactIsFilePlacement
import Derived.Test.YtiocgomkminmoaaBoard
namespace Go.Proofs.Ytiocgomkminmoaa.Pure
set_option linter.unusedVariables false
open Go.RowKit Go.Proofs.Ytiocgomkminmoaa.Q Go.Proofs.YtiocgomkminmoaaW.PrintWords Go.Proofs.YtiocgomkminmoaaW.PrintLast Go.Proofs.YtiocgomkminmoaaW.PrintMore
open Go.Proofs.YtiocgomkminmoaaL Go.Proofs.Ytiocgomkminmoaa.LawK Go.Proofs.Ytiocgomkminmoaa.BoardK

/-- As the program looks: each column's number is -1 or a row that has a cell there. -/
def fileI (l : List Int) : List Int → Nat → Bool
  | [], _ => true
  | x :: t, i => (x == -1 || (inR 0 (l.length - 1) x && cell l x.toNat i)) && fileI l t (i + 1)
/-- As the reference looks, behind its look at all numbers. -/
def fileS (l : List Int) : List Int → Nat → Bool
  | [], _ => true
  | x :: t, i => (decide (x < 0) || cell l x.toNat i) && fileS l t (i + 1)
theorem fileS_fileI (l : List Int) : ∀ (f : List Int) (i : Nat), (f.all (inR (-1) (l.length - 1)) && fileS l f i) = fileI l f i
  | [], _ => rfl
  | x :: t, i => by
    rw [List.all_cons, fileS, fileI, ← fileS_fileI l t (i + 1)]
    have e : (inR (-1) (l.length - 1) x && (decide (x < 0) || cell l x.toNat i)) = (x == -1 || (inR 0 (l.length - 1) x && cell l x.toNat i)) := by
      unfold inR
      by_cases h1 : x = -1
      · subst h1; simp; omega
      · by_cases h2 : x < 0
        · have a1 : ¬ (-1 ≤ x ∧ x ≤ (l.length : Int) - 1) := by omega
          have a2 : ¬ (0 ≤ x ∧ x ≤ (l.length : Int) - 1) := by omega
          simp [h1, a1, a2]
        · by_cases h3 : x ≤ (l.length : Int) - 1
          · have a1 : (-1 ≤ x ∧ x ≤ (l.length : Int) - 1) := by omega
            have a2 : (0 ≤ x ∧ x ≤ (l.length : Int) - 1) := by omega
            simp [h1, h2, a1, a2]
          · have a1 : ¬ (-1 ≤ x ∧ x ≤ (l.length : Int) - 1) := by omega
            have a2 : ¬ (0 ≤ x ∧ x ≤ (l.length : Int) - 1) := by omega
            simp [h1, a1, a2]
    rw [← e]
    cases inR (-1) (l.length - 1) x <;> cases (decide (x < 0) || cell l x.toNat i) <;> cases t.all (inR (-1) (l.length - 1)) <;> simp
theorem spec_file {l f : List Int} {R C : Nat} (hl : l.length = R) (hR : R ≤ 6) (hC : C ≤ 6) (hb : ∀ i (hi : i < l.length), 0 ≤ l[i] ∧ l[i] < 2 ^ C) (hf : f.length = C) (hall : f.all (inR (-1) (l.length - 1)) = true) :
    ∀ (d i : Nat), i + d = f.length → Ev (fun k => spec_fiGood.l0 k f (f.length : Int) i R C l) (fileS l (f.drop i) i)
  | 0, i, hi => by
    refine Ev.step (f := fun _ => some (fileS l (f.drop i) i)) (fun k => ?_) (Ev.now _)
    rw [spec_fiGood.l0, if_neg (by omega), List.drop_eq_nil_of_le (by omega)]; rfl
  | d + 1, i, hi => by
    have h1 : wrap64 ((i : Int) + 1) = ((i + 1 : Nat) : Int) := by rw [w64 (by omega) (by omega)]; rfl
    have hi2 : i < f.length := by omega
    have ih := spec_file hl hR hC hb hf hall d (i + 1) (by omega)
    have hx : inR (-1) (l.length - 1) f[i] = true := List.all_eq_true.1 hall _ (List.getElem_mem hi2)
    unfold inR at hx
    simp only [decide_eq_true_eq] at hx
    have h64 := two_pow_six hC
    rw [List.drop_eq_getElem_cons hi2, fileS]
    by_cases hn : f[i] < 0
    · rw [decide_eq_true hn, Bool.true_or, Bool.true_and]
      refine Ev.step (fun k => ?_) ih
      rw [spec_fiGood.l0, if_pos (by omega), if_pos (by omega), if_pos (by omega), rd_lt _ _ hi2, if_neg (by omega), h1]
    · obtain ⟨m, hm⟩ : ∃ m : Nat, f[i] = m := ⟨f[i].toNat, by omega⟩
      have hml : m < l.length := by omega
      have hc := boHas_f (R : Int) (C : Int) hml (hb m hml).1 (by have := (hb m hml).2; omega) (show i ≤ 64 by omega)
      rw [decide_eq_false hn, Bool.false_or, hm, Int.toNat_natCast]
      by_cases hcell : cell l m i = true
      · rw [hcell, Bool.true_and]
        refine Ev.step (fun k => ?_) ih
        rw [spec_fiGood.l0, if_pos (by omega), if_pos (by omega), if_pos (by omega), rd_lt _ _ hi2, if_pos (by omega), hm, hc, Option.bind_some, if_pos hcell, h1]
      · have hcf : cell l m i = false := by simpa using hcell
        rw [hcf, Bool.false_and]
        refine Ev.step (f := fun _ => some false) (fun k => ?_) (Ev.now _)
        rw [spec_fiGood.l0, if_pos (by omega), if_pos (by omega), if_pos (by omega), rd_lt _ _ hi2, if_pos (by omega), hm, hc, Option.bind_some, if_neg hcell]
theorem impl_file {l f : List Int} {R C : Nat} (hl : l.length = R) (h1R : 1 ≤ R) (hR : R ≤ 6) (hC : C ≤ 6) (hb : ∀ i (hi : i < l.length), 0 ≤ l[i] ∧ l[i] < 2 ^ C) (hf : f.length = C) :
    ∀ (d i : Nat), i + d = f.length → Ev (fun k => impl_Board_isFile.l0 k f (f.length : Int) i R C l) (fileI l (f.drop i) i)
  | 0, i, hi => by
    refine Ev.step (f := fun _ => some (fileI l (f.drop i) i)) (fun k => ?_) (Ev.now _)
    rw [impl_Board_isFile.l0, if_neg (by omega), List.drop_eq_nil_of_le (by omega)]; rfl
  | d + 1, i, hi => by
    have h1 : wrap64 ((i : Int) + 1) = ((i + 1 : Nat) : Int) := by rw [w64 (by omega) (by omega)]; rfl
    have hw : wrap64 ((R : Int) - 1) = (l.length : Int) - 1 := by rw [w64 (by omega) (by omega)]; omega
    have hi2 : i < f.length := by omega
    have ih := impl_file hl h1R hR hC hb hf d (i + 1) (by omega)
    have h64 := two_pow_six hC
    rw [List.drop_eq_getElem_cons hi2, fileI]
    by_cases hn : f[i] = -1
    · rw [hn]
      refine Ev.step (fun k => ?_) ih
      rw [impl_Board_isFile.l0, if_pos (by omega), if_pos (by omega), if_pos (by omega), rd_lt _ _ hi2, if_pos hn, h1]
    · rw [beq_eq_false_iff_ne.mpr hn, Bool.false_or]
      by_cases hin : inR 0 (l.length - 1) f[i] = true
      · have hin' := hin
        unfold inR at hin'
        simp only [decide_eq_true_eq] at hin'
        obtain ⟨m, hm⟩ : ∃ m : Nat, f[i] = m := ⟨f[i].toNat, by omega⟩
        have hml : m < l.length := by omega
        have hc := has_f (R : Int) (C : Int) hml (hb m hml).1 (by have := (hb m hml).2; omega) (show i ≤ 64 by omega)
        rw [hin, Bool.true_and, hm, Int.toNat_natCast]
        by_cases hcell : cell l m i = true
        · rw [hcell, Bool.true_and]
          refine Ev.step (fun k => ?_) ih
          rw [impl_Board_isFile.l0, if_pos (by omega), if_pos (by omega), if_pos (by omega), rd_lt _ _ hi2, if_neg hn, within_f, hw, Option.bind_some, if_pos (by simpa [inR] using hin), hm, hc, Option.bind_some, if_pos hcell, h1]
        · have hcf : cell l m i = false := by simpa using hcell
          rw [hcf, Bool.false_and]
          refine Ev.step (f := fun _ => some false) (fun k => ?_) (Ev.now _)
          rw [impl_Board_isFile.l0, if_pos (by omega), if_pos (by omega), if_pos (by omega), rd_lt _ _ hi2, if_neg hn, within_f, hw, Option.bind_some, if_pos (by simpa [inR] using hin), hm, hc, Option.bind_some, if_neg hcell]
      · have hinf : inR 0 (l.length - 1) f[i] = false := by simpa using hin
        rw [hinf, Bool.false_and, Bool.false_and]
        refine Ev.step (f := fun _ => some false) (fun k => ?_) (Ev.now _)
        rw [impl_Board_isFile.l0, if_pos (by omega), if_pos (by omega), if_pos (by omega), rd_lt _ _ hi2, if_neg hn, within_f, hw, Option.bind_some, if_neg (by simpa [inR] using hin)]
theorem idx_l0 {l : List Int} (hl : l.length ≤ 4611686018427387904) : ∀ (d i : Nat), i + d = l.length → ∃ r : Int, (decide (r ≥ 0) = !(l.drop i).all (inR (-1) 999)) ∧ Ev (fun k => slices_IndexFunc_int_int__at_impl_IsFilePlacement_1.l0 k l (l.length : Int) i) r
  | 0, i, hi => by
    refine ⟨-1, by rw [List.drop_eq_nil_of_le (by omega)]; rfl, Ev.step (f := fun _ => some (-1)) (fun k => ?_) (Ev.now _)⟩
    rw [slices_IndexFunc_int_int__at_impl_IsFilePlacement_1.l0, if_neg (by omega)]
  | d + 1, i, hi => by
    have h1 : wrap64 ((i : Int) + 1) = ((i + 1 : Nat) : Int) := by rw [w64 (by omega) (by omega)]; rfl
    have hi2 : i < l.length := by omega
    have h2 : impl_IsFilePlacement_1.f (rd l (i : Int)) = some (!inR (-1) 999 l[i]) := by
      unfold impl_IsFilePlacement_1.f
      rw [rd_lt _ _ hi2, within_f]; rfl
    rw [List.drop_eq_getElem_cons hi2, List.all_cons]
    by_cases e : inR (-1) 999 l[i] = true
    · obtain ⟨r, hr, hev⟩ := idx_l0 hl d (i + 1) (by omega)
      refine ⟨r, by rw [e, Bool.true_and]; exact hr, Ev.step (fun k => ?_) hev⟩
      rw [slices_IndexFunc_int_int__at_impl_IsFilePlacement_1.l0, if_pos (by omega), if_pos (by omega), if_pos (by omega), h2, Option.bind_some, e]
      rw [if_neg (by simp), h1]
    · have e' : inR (-1) 999 l[i] = false := by simpa using e
      refine ⟨i, by rw [e']; simp, Ev.step (f := fun _ => some (i : Int)) (fun k => ?_) (Ev.now _)⟩
      rw [slices_IndexFunc_int_int__at_impl_IsFilePlacement_1.l0, if_pos (by omega), if_pos (by omega), if_pos (by omega), h2, Option.bind_some, if_pos (by simp [e])]
theorem contains {l : List Int} (hl : l.length ≤ 4611686018427387904) : Ev (fun k => slices_ContainsFunc_int_int__at_impl_IsFilePlacement_1.f k l) (!l.all (inR (-1) 999)) := by
  obtain ⟨r, hr, hev⟩ := idx_l0 hl l.length 0 (by omega)
  rw [List.drop_zero] at hr
  rw [← hr]
  unfold slices_ContainsFunc_int_int__at_impl_IsFilePlacement_1.f slices_IndexFunc_int_int__at_impl_IsFilePlacement_1.f
  exact Ev.bind (a := r) hev (Ev.now _)
def answer (r c : Int) (l f : List Int) : Bool × Bool :=
  if isBoardB r c l && (decide ((f.length : Int) = c) && f.all (inR (-1) 999)) then (fileI l f 0, true) else (false, false)
theorem spec_answer {r c : Int} {l f : List Int} (hl : l.length ≤ 1048576) (hf : f.length ≤ 1048576) : Ev (fun k => spec_IsFilePlacement.f k r c l f) (answer r c l f) := by
  unfold spec_IsFilePlacement.f answer
  refine Ev.bind (boGood r c (by omega)) ?_
  by_cases hg : isBoardB r c l = true
  · obtain ⟨R, C, rfl, rfl, h3, h4, h5, h6, h7, hb⟩ := board_of hg
    refine Ev.congr (fun k => by rw [if_pos hg]) ?_
    rw [hg, Bool.true_and]
    by_cases hc : (f.length : Int) = C
    · refine Ev.congr (fun k => by rw [if_pos hc]) ?_
      rw [decide_eq_true hc, Bool.true_and]
      refine Ev.bind (l1All _ _ (by omega)) ?_
      by_cases ha : f.all (inR (-1) 999) = true
      · refine Ev.congr (fun k => by rw [if_pos ha]) ?_
        rw [if_pos ha]
        refine Ev.bind (a := fileI l f 0) ?_ (Ev.now _)
        unfold spec_fiGood.f
        refine Ev.congr (fun k => by rw [if_pos hc, w64 (by omega) (by omega)]) ?_
        refine Ev.bind (l1All _ _ (by omega)) ?_
        have hRl : (R : Int) - 1 = l.length - 1 := by omega
        rw [hRl, ← fileS_fileI]
        by_cases hall : f.all (inR (-1) (l.length - 1)) = true
        · rw [hall, Bool.true_and]
          refine Ev.step (fun k => by rw [spec_fiGood.j0, if_neg (by simp)]) ?_
          exact spec_file h3 h5 h7 hb (by omega) hall f.length 0 (by omega)
        · have hallf : f.all (inR (-1) (l.length - 1)) = false := by simpa using hall
          rw [hallf, Bool.false_and]
          exact Ev.step (fun k => by rw [spec_fiGood.j0, if_pos (by simp)]) (Ev.now _)
      · rw [if_neg ha]
        exact Ev.congr (fun k => by rw [if_neg ha]) (Ev.now _)
    · rw [decide_eq_false hc, Bool.false_and, if_neg (by simp)]
      exact Ev.congr (fun k => by rw [if_neg hc]) (Ev.now _)
  · have hgf : isBoardB r c l = false := by simpa using hg
    rw [hgf, Bool.false_and, if_neg (by simp)]
    exact Ev.congr (fun k => by rw [if_neg (by simp)]) (Ev.now _)
theorem impl_answer {r c : Int} {l f : List Int} (hf : f.length ≤ 1048576) : Ev (fun k => impl_IsFilePlacement.f k r c l f) (answer r c l f) := by
  unfold impl_IsFilePlacement.f answer impl_IsBoard.f
  refine Ev.congr (fun k => by rw [Option.bind_some]) ?_
  by_cases hg : isBoardB r c l = true
  · obtain ⟨R, C, rfl, rfl, h3, h4, h5, h6, h7, hb⟩ := board_of hg
    refine Ev.congr (fun k => by rw [if_pos hg]) ?_
    rw [hg, Bool.true_and]
    by_cases hc : (f.length : Int) = C
    · refine Ev.congr (fun k => by rw [if_pos hc]) ?_
      rw [decide_eq_true hc, Bool.true_and]
      refine Ev.bind (contains (by omega)) ?_
      by_cases ha : f.all (inR (-1) 999) = true
      · refine Ev.congr (fun k => by rw [if_neg (by simp [ha])]) ?_
        rw [if_pos ha]
        refine Ev.bind (a := fileI l f 0) ?_ (Ev.now _)
        unfold impl_Board_isFile.f
        refine Ev.congr (fun k => by rw [if_pos hc]) ?_
        exact impl_file h3 h4 h5 h7 hb (by omega) f.length 0 (by omega)
      · rw [if_neg ha]
        exact Ev.congr (fun k => by rw [if_pos (by simp [ha])]) (Ev.now _)
    · rw [decide_eq_false hc, Bool.false_and, if_neg (by simp)]
      exact Ev.congr (fun k => by rw [if_neg hc]) (Ev.now _)
  · have hgf : isBoardB r c l = false := by simpa using hg
    rw [hgf, Bool.false_and, if_neg (by simp)]
    exact Ev.congr (fun k => by rw [if_neg (by simp)]) (Ev.now _)
theorem FnExactIsFilePlacement : laws_FnExactIsFilePlacement.Pure := by
  intro r c l f _ _ _ hl8 _ _ hf8 _
  unfold laws_FnExactIsFilePlacement.f
  by_cases hbig : (f.length : Int) > 1048576
  · exact ⟨1, by rw [if_pos hbig]⟩
  · refine ends ?_
    refine Ev.congr (fun k => by rw [if_neg hbig, szBoard_f r c l hl8, Option.bind_some]) ?_
    by_cases hlb : l.length ≤ 1048576
    · refine Ev.congr (fun k => by rw [if_pos hlb, if_neg (by omega)]) ?_
      refine Ev.bind (toBoard r c hlb) (Ev.bind (toIntS (by omega)) (Ev.bind (spec_answer hlb (by omega)) (Ev.bind (toBoard r c hlb) (Ev.bind (toIntS (by omega)) (Ev.bind (impl_answer (by omega)) ?_)))))
      refine Ev.congr (fun k => by rw [if_neg (by simp)]) ?_
      refine Ev.step (fun k => by rw [laws_FnExactIsFilePlacement.j0, if_neg (by simp)]) ?_
      refine Ev.bind (toBoard r c hlb) (Ev.bind (eqBoard r c (by simp; omega)) ?_)
      refine Ev.congr (fun k => by rw [if_pos rfl]) ?_
      refine Ev.bind (toIntS (by omega)) (Ev.bind (eqIntS (by omega)) ?_)
      exact Ev.congr (fun k => by rw [if_pos (by simp)]) (Ev.now _)
    · exact Ev.congr (fun k => by rw [if_neg hlb, if_pos (by omega)]) (Ev.now _)

end Go.Proofs.Ytiocgomkminmoaa.Pure
