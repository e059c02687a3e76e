/- Short names for words that stand often. No conditions. -/
import Derived.Test.YtadkkcdhgepbkaaSFnMatricesOfRanks2
import Derived.Test.YtadkkcdhgepbkaaSFnMatricesOfRanks3
namespace Go.Proofs.YtadkkcdhgepbkaaW.PrintWords
open Go.RowKit Go.Proofs.YtadkkcdhgepbkaaW.PrintWords Go.Proofs.YtadkkcdhgepbkaaW.PrintLast Go.Proofs.YtadkkcdhgepbkaaW.PrintMore
theorem za : type_of% @Aside0.mk := @Aside0.mk
theorem zb : type_of% @below_drew1 := @below_drew1
theorem zc : type_of% @below_alloc := @below_alloc
theorem zd : type_of% @pw_below_drewN := @pw_below_drewN
theorem ze : type_of% @Kd.R_drew := @Kd.R_drew
theorem zf : type_of% @Kd.R_alloc := @Kd.R_alloc
theorem zg : type_of% @Kd.R_drewN := @Kd.R_drewN
theorem zh : type_of% @gate_callee := @gate_callee
theorem zi : type_of% @Kd.C_alloc := @Kd.C_alloc
theorem zj : type_of% @Kd.C_drewN := @Kd.C_drewN
theorem zk : type_of% @Kd.C_drew := @Kd.C_drew
theorem zl : type_of% @Kd.R_reads' := @Kd.R_reads'
theorem zm : type_of% @below_set := @below_set
theorem zn : type_of% @KeepBut.set_ := @KeepBut.set_
theorem zo : type_of% @keep_drewN := @keep_drewN
theorem zp : type_of% @keep_drew := @keep_drew
theorem zq : type_of% @keep_alloc := @keep_alloc
theorem zr : type_of% @below_size := @below_size
theorem z0_ : type_of% @List.setIfInBounds_toArray := @List.setIfInBounds_toArray
theorem z1_ : type_of% @List.set_cons_zero := @List.set_cons_zero
theorem z2_ : type_of% @List.set_cons_succ := @List.set_cons_succ
theorem z3_ : type_of% @List.map_toArray := @List.map_toArray
theorem z4_ : type_of% @List.map_cons := @List.map_cons
theorem z5_ : type_of% @List.map_nil := @List.map_nil
theorem bindAside {α β : Type} {x : Option α} {f : α → Option β} {y : β} (H : (x.bind f) = some y) : ∃ a, Aside0 (x = some a) ∧ f a = some y := by
  obtain ⟨a, h, g⟩ := Option.bind_eq_some_iff.mp H
  exact ⟨a, ⟨h⟩, g⟩
end Go.Proofs.YtadkkcdhgepbkaaW.PrintWords
