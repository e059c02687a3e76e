/- Short names for words that stand often. No conditions. -/
import Derived.Test.YtiopnmgcajohfaaSFnHitsAndRooks2
import Derived.Test.YtiopnmgcajohfaaSFnHitsAndRooks3
namespace Go.Proofs.YtiopnmgcajohfaaW.PrintWords
open Go.RowKit Go.Proofs.YtiopnmgcajohfaaW.PrintWords Go.Proofs.YtiopnmgcajohfaaW.PrintLast Go.Proofs.YtiopnmgcajohfaaW.PrintMore
theorem za : type_of% @Aside0.mk := @Aside0.mk
theorem zb : type_of% @below_drew1 := @below_drew1
theorem zc : type_of% @below_alloc := @below_alloc
theorem zd : type_of% @pw_below_drewN := @pw_below_drewN
theorem ze : type_of% @below_set := @below_set
theorem zf : type_of% @blk_drew := @blk_drew
theorem zg : type_of% @blk_cell := @blk_cell
theorem zh : type_of% @blk_drewN := @blk_drewN
theorem zi : type_of% @blk_alloc := @blk_alloc
theorem zj : type_of% @Kd.R_drew := @Kd.R_drew
theorem zk : type_of% @Kd.R_alloc := @Kd.R_alloc
theorem zl : type_of% @Kd.R_drewN := @Kd.R_drewN
theorem zm : type_of% @blk_frozen := @blk_frozen
theorem zn : type_of% @Kd.R_far := @Kd.R_far
theorem zo : type_of% @below_size := @below_size
theorem zp : type_of% @below_step := @below_step
theorem zq : type_of% @gate_callee := @gate_callee
theorem zr : type_of% @goesL_ := @goesL_
theorem zs : type_of% @Kd.R_mono := @Kd.R_mono
theorem zt : type_of% @keep_drew := @keep_drew
theorem zu : type_of% @blk_below := @blk_below
theorem zv : type_of% @KeepBut.set_ := @KeepBut.set_
theorem zw : type_of% @keep_drewN := @keep_drewN
theorem zx : type_of% @keep_alloc := @keep_alloc
theorem zy : type_of% @keep_far := @keep_far
theorem zz : type_of% @blk_put := @blk_put
theorem zA : type_of% @gate_dst := @gate_dst
theorem zB : type_of% @Kd.R_reads' := @Kd.R_reads'
theorem zC : type_of% @Kd.C_alloc := @Kd.C_alloc
theorem zD : type_of% @Kd.C_drewN := @Kd.C_drewN
theorem zE : type_of% @Kd.C_drew := @Kd.C_drew
theorem zF : type_of% @box_event := @box_event
theorem zG : type_of% @Kd.R_below := @Kd.R_below
theorem zH : type_of% @Kd.R_base := @Kd.R_base
theorem zI : type_of% @Kd.R_new' := @Kd.R_new'
theorem zJ : type_of% @Kd.R_elder' := @Kd.R_elder'
theorem zK : type_of% @KeepBut.trans := @KeepBut.trans
theorem zL : type_of% @Kd.R_lower := @Kd.R_lower
theorem zM : type_of% @Kd.R_types := @Kd.R_types
theorem zN : type_of% @KeepBut.blk := @KeepBut.blk
theorem z0_ : type_of% @List.setIfInBounds_toArray := @List.setIfInBounds_toArray
theorem z1_ : type_of% @List.set_cons_zero := @List.set_cons_zero
theorem z2_ : type_of% @List.set_cons_succ := @List.set_cons_succ
theorem z3_ : type_of% @List.map_toArray := @List.map_toArray
theorem z4_ : type_of% @List.map_cons := @List.map_cons
theorem z5_ : type_of% @List.map_nil := @List.map_nil
theorem bindAside {α β : Type} {x : Option α} {f : α → Option β} {y : β} (H : (x.bind f) = some y) : ∃ a, Aside0 (x = some a) ∧ f a = some y := by
  obtain ⟨a, h, g⟩ := Option.bind_eq_some_iff.mp H
  exact ⟨a, ⟨h⟩, g⟩
end Go.Proofs.YtiopnmgcajohfaaW.PrintWords
