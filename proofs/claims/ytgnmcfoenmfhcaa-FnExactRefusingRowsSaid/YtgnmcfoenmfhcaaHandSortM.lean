/- Sets of rows in order: what the library's sort makes of masks under the program's comparison. No conditions but masks. -/
import Derived.Test.YtgnmcfoenmfhcaaGrow
import Derived.Test.YtgnmcfoenmfhcaaLaySort
import Derived.Test.YtgnmcfoenmfhcaaLines
import Derived.Test.YtgnmcfoenmfhcaaQimplBoardrowSets1
import Derived.Lib.SortBridge
namespace Go.Proofs.Ytgnmcfoenmfhcaa.SortM
set_option linter.unusedVariables false
open Go Go.Shelf Go.RowKit Go.Lib Go.Sort Go.Proofs Go.Proofs.Ytgnmcfoenmfhcaa.Q Go.Proofs.YtgnmcfoenmfhcaaW.PrintWords Go.Proofs.YtgnmcfoenmfhcaaW.PrintLast Go.Proofs.YtgnmcfoenmfhcaaW.PrintMore
open Go.Proofs.YtgnmcfoenmfhcaaL Go.Proofs.Ytgnmcfoenmfhcaa.LawK Go.Proofs.Ytgnmcfoenmfhcaa.BoardK Go.Proofs.Ytgnmcfoenmfhcaa.LinesK Go.Proofs.Ytgnmcfoenmfhcaa.GrowK
/-- All masks: fewer bits first, then by their numbers. -/
def fullM : List Nat := [0, 1, 2, 4, 8, 16, 32, 3, 5, 9, 17, 33, 6, 10, 18, 34, 12, 20, 36, 24, 40, 48, 7, 11, 19, 35, 13, 21, 37, 25, 41, 49, 14, 22, 38, 26, 42, 50, 28, 44, 52, 56, 15, 23, 39, 27, 43, 51, 29, 45, 53, 57, 30, 46, 54, 58, 60, 31, 47, 55, 59, 61, 62, 63]
def rankM (m : Nat) : Nat := fullM.idxOf m
/-- How two masks compare. -/
def cmpM (x y : Nat) : Int := if (listM x).length = (listM y).length then (slices_Compare_int_int.f 20 (listM x) (listM y)).getD 0 else ((listM x).length : Int) - (listM y).length
theorem count_all : ∀ m : Fin 64, impl_count.f (m.val : Int) = some ((listM m.val).length : Int) := by decide +kernel
theorem compare_all : ∀ x y : Fin 64, (listM x.val).length = (listM y.val).length → slices_Compare_int_int.f 20 (listM x.val) (listM y.val) = some (cmpM x.val y.val) := by decide +kernel
theorem rank_all : ∀ x y : Fin 64, decide (cmpM x.val y.val < 0) = decide (rankM x.val < rankM y.val) := by decide +kernel
theorem rank_inj : ∀ x y : Fin 64, rankM x.val = rankM y.val → x = y := by decide +kernel
def cfM (x y : Fin 64) : Int := cmpM x.val y.val
theorem ltM (x y : Fin 64) : ltOf cfM x y = decide (rankM x.val < rankM y.val) := rank_all x y
theorem swoM : SWO (ltOf cfM) where
  irrefl x := by rw [ltM]; simp
  trans x y z h1 h2 := by rw [ltM] at *; simp at *; omega
  ntrans x y z h1 h2 := by rw [ltM] at *; simp at *; omega
theorem totM (x y : Fin 64) (h1 : ltOf cfM x y = false) (h2 : ltOf cfM y x = false) : x = y := by
  rw [ltM] at h1 h2
  simp only [decide_eq_false_iff_not] at h1 h2
  exact rank_inj x y (by omega)
set_option maxHeartbeats 4000000 in
set_option maxRecDepth 100000 in
/-- A mask's list, and what it draws. -/
theorem listOf_d (m : Nat) (hm : m < 64) (w : World) : Calls Try.prog 75 #[.int .i64 (m : Int)] w fun e w' => ∃ v0 : Value, e = .returned v0 ∧ Kd.R (Kd.int .i64) 3 w' w.heap.size (fun _ => True) v0 (listM m) ∧ BelD w w' := by
  obtain ⟨r, hr⟩ : ∃ r, r = listM m := ⟨_, rfl⟩
  have hrl : r.length ≤ 6 := by rw [hr]; exact listM_len m
  rw [← hr]
  have HR := Aside0.mk hr
  have HL := Aside0.mk hrl
  have HM := Aside0.mk hm
  clear hr hrl
  go_enter Try.func75, Try.ntmps75
  go_wp2_with (first | ((with_reducible refine gate_dst (N := 5) rfl ?_); refine R_lit_d (Kd.int .i64) 3 ?hg (N := 5) ?hd (xs := ([] : List Int)) (inner := []) (ok := fun _ => True) (okp := fun _ => True) ?hr ?hp (fun _ hk => hk) trivial (by simp) ?_; (case hd => rfl); (case hg => rfl); (case hr => first | (go_simp; done) | (go_simp; rfl)); (case hp => exact (Reps.none _ _)); intro v5 w5 ho hb; have O5 := Aside0.mk ho; have B5 := Aside0.mk hb; clear ho hb))
  go_loopg [3, 6] 6 (fun kq v3 v6 w' => ∃ (xs : List Int) (x : Int), v6 = .int .i64 x ∧ Aside0 (∃ i : Nat, x = i ∧ i + kq = 6 ∧ xs ++ (iota i kq).filter (fun i => m.testBit i.toNat) = r) ∧ Aside0 (Kd.R (Kd.int .i64) 3 w' w.heap.size (fun _ => True) v3 xs) ∧ Aside0 (BelD w w'))
  case atStart => exact ⟨[], 0, rfl, ⟨0, rfl, rfl, by rw [HR.out]; rfl⟩, O5, B5⟩
  case round =>
    clear O5 B5
    obtain ⟨xs, x, rfl, HI, HS, HB⟩ := hrel
    by_cases c4 : x < 6
    · have c4b0 : decide (x < 6) = true := decide_eq_true c4
      cases gk with
      | zero => exact absurd HI.out (by rintro ⟨i, h1, h2, _⟩; omega)
      | succ k1 =>
        have hx0 : 0 ≤ x := by obtain ⟨i, h1, _⟩ := HI.out; omega
        have c5b0 := eq_true hx0
        have c5b1 : decide (0 ≤ x) = true := decide_eq_true hx0
        obtain ⟨ji, hji⟩ : ∃ j_ : Int, (shr .i64 (m : Int) x) = j_ := ⟨_, rfl⟩
        have hji_ : ((m : Int) / 2 ^ min x.toNat 64) = ji := hji
        have hjiz : x ≤ 64 → ((m : Int) / 2 ^ x.toNat) = ji := shr_small hji
        have HX := Aside0.mk (show ∃ i : Nat, x = i ∧ i + k1 + 1 = 6 ∧ xs ++ (if m.testBit i = true then [x] else []) ++ (iota (x + 1) k1).filter (fun i => m.testBit i.toNat) = r from by
          obtain ⟨i, h1, h2, h3⟩ := HI.out
          refine ⟨i, h1, by omega, ?_⟩
          rw [iota, List.filter_cons, Int.toNat_natCast] at h3
          rw [h1, List.append_assoc]
          by_cases hb : m.testBit i = true
          · rw [if_pos hb] at h3 ⊢; exact h3
          · rw [if_neg hb] at h3 ⊢; exact h3)
        have HJ := Aside0.mk (show ∀ i : Nat, x = i → Go.bits .and .i64 ji 1 = if m.testBit i then 1 else 0 from by
          intro i hi
          rw [← hji, hi]
          exact bit_and m i (by have := HM.out; omega) (by omega))
        have HW := Aside0.mk (show wrap64 (x + 1) = x + 1 from w64 (by omega) (by omega))
        clear HI c4 hx0 hji
        by_cases c7 : Go.bits .and .i64 ji 1 = 1
        · have c7b0 : (Go.bits .and .i64 ji 1 == 1) = true := beq_iff_eq.mpr c7
          have c7b1 : (Go.bits .and .i64 ji 1 != 1) = false := bne_eq_false_iff_eq.mpr c7
          have HN := Aside0.mk (show ∃ i : Nat, wrap64 (x + 1) = i ∧ i + k1 = 6 ∧ (xs ++ [x]) ++ (iota i k1).filter (fun i => m.testBit i.toNat) = r from by
            obtain ⟨i, h1, h2, h3⟩ := HX.out
            have hb : m.testBit i = true := by
              have := HJ.out i h1
              rw [c7] at this
              by_cases hb : m.testBit i = true
              · exact hb
              · rw [if_neg hb] at this; omega
            rw [if_pos hb] at h3
            refine ⟨i + 1, by rw [HW.out]; omega, by omega, ?_⟩
            rw [show (((i + 1 : Nat) : Int)) = x + 1 by omega]
            exact h3)
          have HXL := Aside0.mk (show xs.length ≤ 6 from by
            obtain ⟨i, h1, h2, h3⟩ := HN.out
            have := congrArg List.length h3
            have := HL.out
            simp only [List.length_append] at *
            omega)
          clear c7 HX HJ
          go_wp2_with (first | ((with_reducible refine gate_builtin (b := .append) (xs := #[.tmp 14, .tmp 16]) rfl ?_); at_builtin; refine R_append_d (Kd.int .i64) (w0 := w) w.heap.size rfl (.tmp 14) (.tmp 16) 24 3 (.int .i64 0) 8 rfl Try.underlying24 info3 rfl (by decide) (by omega) u3 xs x [.int .i64 x] (fun _ => True) (fun _ => False) rfl rfl ?aP (fun _ hk => hk.elim) (fun _ _ => trivial) ?aO ?aB ?aS (Nat.le_refl _) ?aL ?_; (case aP => exact rfl); (case aO => exact HS.out); (case aB => exact HB.out); (case aS => exact HB.out.below.size); (case aL => have := HXL.out; omega); intro v9 w9 ho hb; have O9 := Aside0.mk ho; have B9 := Aside0.mk hb; clear ho hb))
          go_roundg k1
          case measure => omega
          case rel => exact ⟨xs ++ [x], wrap64 (x + 1), (by first | rfl | (simp; done) | (simp [*]; done)), HN, O9, B9⟩
        · have c7b0 : (Go.bits .and .i64 ji 1 == 1) = false := beq_eq_false_iff_ne.mpr c7
          have c7b1 : (Go.bits .and .i64 ji 1 != 1) = true := bne_iff_ne.mpr c7
          have HN := Aside0.mk (show ∃ i : Nat, wrap64 (x + 1) = i ∧ i + k1 = 6 ∧ xs ++ (iota i k1).filter (fun i => m.testBit i.toNat) = r from by
            obtain ⟨i, h1, h2, h3⟩ := HX.out
            have hb : ¬ m.testBit i = true := fun hb => by
              have := HJ.out i h1
              rw [if_pos hb] at this
              exact c7 this
            rw [if_neg hb, List.append_nil] at h3
            refine ⟨i + 1, by rw [HW.out]; omega, by omega, ?_⟩
            rw [show (((i + 1 : Nat) : Int)) = x + 1 by omega]
            exact h3)
          clear c7 HX HJ
          go_wp2
          go_roundg k1
          case measure => omega
          case rel => exact ⟨xs, wrap64 (x + 1), (by first | rfl | (simp; done) | (simp [*]; done)), HN, ⟨by (with_reducible repeat (first | apply Kd.R_alloc | apply Kd.R_drewN | apply Kd.R_drew)); exact HS.out⟩, ⟨by repeat (first | exact HB.out | refine BelD.drewN ?_ _ | refine BelD.drew ?_)⟩⟩
    · have c4b0 : decide (x < 6) = false := decide_eq_false c4
      have HE := Aside0.mk (show xs = r from by
        obtain ⟨i, h1, h2, h3⟩ := HI.out
        rw [show gk = 0 by omega, iota, List.filter_nil, List.append_nil] at h3
        exact h3)
      clear c4 HI
      go_wp2
      go_ret
      exact ⟨_, rfl, by rw [← HE.out]; exact HS.out, HB.out⟩
set_option maxHeartbeats 4000000 in
set_option maxRecDepth 100000 in
/-- The comparison of two masks. -/
theorem cmp_n (x y : Int) (lx ly : List Int) (r : Int) (hlx : lx.length ≤ 6) (hly : ly.length ≤ 6) (hc1 : impl_count.f x = some (lx.length : Int)) (hc2 : impl_count.f y = some (ly.length : Int))
    (hX : ∀ W, Calls Try.prog 75 #[.int .i64 x] W fun e w' => ∃ v0 : Value, e = .returned v0 ∧ Kd.R (Kd.int .i64) 3 w' W.heap.size (fun _ => True) v0 lx ∧ BelD W w')
    (hY : ∀ W, Calls Try.prog 75 #[.int .i64 y] W fun e w' => ∃ v0 : Value, e = .returned v0 ∧ Kd.R (Kd.int .i64) 3 w' W.heap.size (fun _ => True) v0 ly ∧ BelD W w')
    (h1 : lx.length = ly.length → slices_Compare_int_int.f 20 lx ly = some r) (h2 : lx.length ≠ ly.length → r = (lx.length : Int) - ly.length) (w : World) :
    Calls Try.prog 117 #[.int .i64 x, .int .i64 y] w fun e w' => e = .returned (.int .i64 r) ∧ BelD w w' := by
  have CX := Lib.hid hX
  have CY := Lib.hid hY
  have CA := Lib.hid (fun W => impl_count.calls x (lx.length : Int) W hc1)
  have CB := Lib.hid (fun W => impl_count.calls y (ly.length : Int) W hc2)
  obtain ⟨d, hd⟩ : ∃ d : Int, d = (lx.length : Int) - ly.length := ⟨_, rfl⟩
  have hw : IntKind.i64.wrap ((lx.length : Int) - ly.length) = d := by rw [wrap_i64', w64 (by omega) (by omega), hd]
  by_cases h : lx.length = ly.length
  · have e0 : (d != 0) = false := bne_eq_false_iff_eq.mpr (by omega)
    have HCP := Aside0.mk (h1 h)
    clear h h1 h2 hlx hly hc1 hc2 hX hY hd
    go_enter Try.func117, Try.ntmps117
    go_wp2_with (first
      | (go_at_call 73; (with_reducible refine (CA.out _).mono ?_); rintro e w' ⟨rfl, ⟨nd, rfl⟩⟩)
      | (go_at_call 73; (with_reducible refine (CB.out _).mono ?_); rintro e w' ⟨rfl, ⟨nd, rfl⟩⟩)
      | (go_at_call 75; (with_reducible refine (CX.out _).mono ?_); rintro e wx ⟨vx, rfl, hx, hb⟩; obtain ⟨Ax, cx, rfl⟩ := Kd.R_slice hx; have RX := Aside0.mk hx; have BX := Aside0.mk (show BelD w wx from BelD.trans (by repeat (first | exact BelD.refl _ | refine BelD.drewN ?_ _ | refine BelD.drew ?_)) hb); clear hx hb CX)
      | (go_at_call 75; (with_reducible refine (CY.out _).mono ?_); rintro e wy ⟨vy, rfl, hy, hb⟩; obtain ⟨Ay, cy, rfl⟩ := Kd.R_slice hy; have RY := Aside0.mk hy; have RX2 := Aside0.mk (Kd.R_below RX.out hb.below); have BY := Aside0.mk (BX.out.trans hb); clear hy hb)
      | (go_at_call 118; refine (slices_Compare_int_int.calls 20 Ax cx lx Ay cy ly r _ (Kd.R_reads' RX2.out).2.2 (Kd.R_reads' RX2.out).2.1 (Kd.R_reads' RY.out).2.2 (Kd.R_reads' RY.out).2.1 HCP.out).mono ?_; rintro e w' ⟨rfl, ⟨nd, rfl⟩⟩))
    go_ret
    exact ⟨rfl, by repeat (first | exact BY.out | refine BelD.drewN ?_ _ | refine BelD.drew ?_)⟩
  · have e0 : (d != 0) = true := bne_iff_ne.mpr (by omega)
    have hr := h2 h
    rw [← hd] at hr
    have HR := Aside0.mk hr
    clear h h1 h2 hr hd hlx hly hc1 hc2 hX hY CX CY
    go_enter Try.func117, Try.ntmps117
    go_wp2_with (first
      | (go_at_call 73; (with_reducible refine (CA.out _).mono ?_); rintro e w' ⟨rfl, ⟨nd, rfl⟩⟩)
      | (go_at_call 73; (with_reducible refine (CB.out _).mono ?_); rintro e w' ⟨rfl, ⟨nd, rfl⟩⟩))
    go_ret
    exact ⟨by rw [HR.out]; rfl, by repeat (first | exact BelD.refl _ | refine BelD.drewN ?_ _ | refine BelD.drew ?_)⟩
theorem cmp_d (x y : Fin 64) (w : World) : Calls Try.prog 117 #[.int .i64 (x.val : Int), .int .i64 (y.val : Int)] w fun e w' => e = .returned (.int .i64 (cmpM x.val y.val)) ∧ BelD w w' :=
  cmp_n (x.val : Int) (y.val : Int) (listM x.val) (listM y.val) (cmpM x.val y.val) (listM_len _) (listM_len _) (count_all x) (count_all y) (fun W => listOf_d x.val x.isLt W) (fun W => listOf_d y.val y.isLt W) (fun h => compare_all x y h) (fun h => by unfold cmpM; rw [if_neg h]) w
/-- The mask that a number is. -/
def toF (x : Int) : Fin 64 := ⟨x.toNat % 64, Nat.mod_lt _ (by decide)⟩
def encM (i : Fin 64) : Value := .int .i64 (i.val : Int)
/-- Masks in order. -/
def sortedM (l : List Int) : List Int := ((l.map toF).mergeSort fun x y => !(ltOf cfM) y x).map fun i => (i.val : Int)
def isMask (x : Int) : Bool := decide (0 ≤ x ∧ x < 64)
theorem toF_val {x : Int} (h : isMask x = true) : ((toF x).val : Int) = x := by
  have h2 : 0 ≤ x ∧ x < 64 := of_decide_eq_true h
  unfold toF
  simp only []
  omega
theorem toF_map {l : List Int} (h : l.all isMask = true) : (l.map toF).map (fun i => (i.val : Int)) = l := by
  rw [List.map_map]
  conv => rhs; rw [← List.map_id l]
  apply List.map_congr_left
  intro x hx
  exact toF_val (List.all_eq_true.1 h x hx)
/-- A row of one's own, its cells written anew, in a world that grew. -/
theorem R_written {W : World} {e base g n cap q : Nat} {ok : Nat → Prop} {xs ys : List Int} {os : Array Obj} (h : Kd.R (Kd.int .i64) e W base ok (.slice (some ⟨g, 0, none⟩) n cap) xs) (hl : ys.length = xs.length) :
    Kd.R (Kd.int .i64) e (grow ((W.drewN q).setCells g 0 (ys.map (Value.int .i64))) os) base ok (.slice (some ⟨g, 0, none⟩) n cap) ys ∧ (∀ k, k < W.heap.size → k ≠ g → (grow ((W.drewN q).setCells g 0 (ys.map (Value.int .i64))) os).heap[k]? = W.heap[k]?) ∧ (grow ((W.drewN q).setCells g 0 (ys.map (Value.int .i64))) os).os = W.os ∧ (grow ((W.drewN q).setCells g 0 (ys.map (Value.int .i64))) os).tape = W.tape ∧ (grow ((W.drewN q).setCells g 0 (ys.map (Value.int .i64))) os).output = W.output ∧ W.heap.size ≤ (grow ((W.drewN q).setCells g 0 (ys.map (Value.int .i64))) os).heap.size := by
  have hn := (Kd.R_reads' h).1
  subst hn
  have hown := Kd.own_of_R (enc := Value.int .i64) h
  rcases hown.2 with ⟨hv, _⟩ | ⟨g2, cap2, cur, hv, hbg, hg, hnc, hcm, hcs, htake⟩
  · cases hv
  · injection hv with e1 e2 e3
    injection e1 with e1
    injection e1 with e1 _ _
    subst e1
    subst e3
    have hg2 : (W.drewN q).heap[g]? = some (.cells cur e (0, 0)) := hg
    obtain ⟨cur', h3, h4, h5⟩ := setCells_row (ys.map (Value.int .i64)) 0 (W.drewN q) cur hg2 (by rw [List.length_map]; omega)
    obtain ⟨s1, s2, s3, s4⟩ := setCells_same g (ys.map (Value.int .i64)) 0 (W.drewN q)
    have hlt : g < ((W.drewN q).setCells g 0 (ys.map (Value.int .i64))).heap.size := blk_lt h3
    refine ⟨Kd.R_of_own ⟨by simp [encs], .inr ⟨g, cap, cur', by rw [hl], hbg, ?_, by omega, hcm, by omega, ?_⟩⟩ h.1, fun k hk hne => ?_, s1, s2, s3, ?_⟩
    · rw [heap_grow_old _ _ hlt]; exact h3
    · rw [h5]
      simp [encs]
    · have hk2 : k < ((W.drewN q).setCells g 0 (ys.map (Value.int .i64))).heap.size := by rw [s4]; exact hk
      rw [heap_grow_old _ _ hk2]
      exact setCells_far _ _ k hne
    · rw [size_grow, s4]
      show W.heap.size ≤ W.heap.size + os.size
      omega
end Go.Proofs.Ytgnmcfoenmfhcaa.SortM
namespace Go.Proofs.Ytgnmcfoenmfhcaa.Q
set_option linter.unusedVariables false
open Go Go.Shelf Go.RowKit Go.Lib Go.Sort Go.Proofs Go.Proofs.YtgnmcfoenmfhcaaW.PrintWords Go.Proofs.YtgnmcfoenmfhcaaW.PrintLast Go.Proofs.YtgnmcfoenmfhcaaW.PrintMore
open Go.Proofs.Ytgnmcfoenmfhcaa.GrowK Go.Proofs.Ytgnmcfoenmfhcaa.SortM
def slices_SortFunc_int_int__at_impl_Board_rowSets_1.f (l0 : List Int) : Option (List Int) := if l0.all isMask = true ∧ 1 ≤ l0.length ∧ l0.length ≤ 1000 then some (sortedM l0) else none
set_option maxHeartbeats 4000000 in
set_option maxRecDepth 100000 in
theorem slices_SortFunc_int_int__at_impl_Board_rowSets_1.calls (P0_ : Nat → Prop) (u9000_ : Value) (l0 : List Int) (r : List Int) (w0 w : World) (hB : Below w0.heap.size w0 w) (ho0 : Kd.R (Kd.int .i64) 3 w w0.heap.size P0_ u9000_ l0) (h : slices_SortFunc_int_int__at_impl_Board_rowSets_1.f l0 = some r) :
    Calls Try.prog 116 #[u9000_, .func (.func 117) #[] #[]] w fun e w' => e = .returned (.tuple #[]) ∧ Kd.R (Kd.int .i64) 3 w' w0.heap.size (fun k_ => (P0_ k_ ∨ w.heap.size ≤ k_)) u9000_ r ∧ Below w0.heap.size w0 w' ∧ Kept w w' (fun k_ => P0_ k_) := by
  unfold slices_SortFunc_int_int__at_impl_Board_rowSets_1.f at h
  by_cases c : l0.all isMask = true ∧ 1 ≤ l0.length ∧ l0.length ≤ 1000
  rotate_left
  · rw [if_neg c] at h; cases h
  rw [if_pos c] at h
  obtain rfl := Option.some.inj h
  obtain ⟨hm, h1, h2⟩ := c
  have hown := Kd.own_of_R (enc := Value.int .i64) ho0
  rcases hown.2 with ⟨hv, hx⟩ | ⟨g, cap, cur, hv, hbg, hg, hnc, hcm, hcs, htake⟩
  · omega
  subst hv
  have eg : ∀ args w, (callFunc 117 args).run Try.prog w = .ok (.enter 117 args) w := enters_of Try.func117 (by kernel_rfl) rfl
  have hblk : g < w.heap.size := blk_lt hg
  have hl : (l0.map toF).toArray.size = l0.length := by simp
  have hH : Holds encM w g 0 (l0.map toF).toArray := by
    intro j hj
    rw [hl] at hj
    have hc := Kd.R_celln (0 : Int) ho0 (j : Int) (by omega) (by omega)
    rw [Int.toNat_natCast] at hc
    rw [Nat.zero_add]
    refine ⟨?_, hc.2⟩
    rw [hc.1]
    have hjm := List.all_eq_true.1 hm l0[j] (List.getElem_mem hj)
    have : (l0.map toF).toArray[j]! = toF l0[j] := by simp [hj]
    rw [this]
    unfold encM rdOf
    rw [toF_val hjm]
    simp [hj]
  have hcmp : CmpLays1 Try.prog 117 #[] encM cfM g 0 (l0.map toF).toArray.size w := fun m os dk _ x y => (cmp_d x y _).mono fun e w' ⟨he, hb⟩ => ⟨he, hb.grown⟩
  have hS := Any.slices_SortFunc_total Lay.sortI encM (fun _ => rfl) cfM swoM 117 #[] g 0 cap (l0.map toF).toArray w eg hcmp hH hblk (by rw [hl]; omega) totM
  rw [hl] at hS
  change Calls Try.prog 116 _ _ _ at hS
  refine hS.mono ?_
  rintro e w' ⟨rfl, n, os, rfl⟩
  have hsw : sortWorld encM w g 0 n ((l0.map toF).toArray.toList.mergeSort fun x y => !(ltOf cfM) y x).toArray os = grow ((w.drewN n).setCells g 0 ((sortedM l0).map (Value.int .i64))) os := by
    unfold sortWorld
    rw [Lib.sorted_world encM w g 0 n (l0.map toF).toArray _ os hH (by simp)]
    unfold sortedM
    rw [List.map_map]
    rfl
  obtain ⟨H1, H2, H3, H4, H5, H6⟩ := R_written (q := n) (os := os) (ys := sortedM l0) ho0 (by simp [sortedM])
  rw [hsw]
  refine ⟨rfl, Kd.R_mono H1 (fun _ h => .inl h), ⟨H3.trans hB.os, H4.trans hB.tape, H5.trans hB.output, Nat.le_trans hB.size H6, fun k hk => ?_⟩, ⟨H6, fun i hi hn => H2 i hi (fun he => hn (he ▸ ho0.1 g rfl))⟩⟩
  have hk2 : k < w.heap.size := Nat.lt_of_lt_of_le hk hB.size
  rw [H2 k hk2 (by omega)]
  exact hB.block k hk
end Go.Proofs.Ytgnmcfoenmfhcaa.Q
