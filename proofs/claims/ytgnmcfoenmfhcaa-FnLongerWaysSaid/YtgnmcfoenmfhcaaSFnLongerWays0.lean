/- Short names for words that stand often. No conditions. -/
import Derived.Test.YtgnmcfoenmfhcaaSFnLongerWays2
import Derived.Test.YtgnmcfoenmfhcaaSFnLongerWays3
namespace Go.Proofs.YtgnmcfoenmfhcaaW.PrintWords
open Go.RowKit Go.Proofs.YtgnmcfoenmfhcaaW.PrintWords Go.Proofs.YtgnmcfoenmfhcaaW.PrintLast Go.Proofs.YtgnmcfoenmfhcaaW.PrintMore
theorem za : type_of% @Aside0.mk := @Aside0.mk
theorem zb : type_of% @blk_drew := @blk_drew
theorem zc : type_of% @below_drew1 := @below_drew1
theorem zd : type_of% @blk_drewN := @blk_drewN
theorem ze : type_of% @blk_alloc := @blk_alloc
theorem zf : type_of% @below_alloc := @below_alloc
theorem zg : type_of% @pw_below_drewN := @pw_below_drewN
theorem zh : type_of% @below_set := @below_set
theorem zi : type_of% @blk_cell := @blk_cell
theorem zj : type_of% @Kd.R_drew := @Kd.R_drew
theorem zk : type_of% @blk_frozen := @blk_frozen
theorem zl : type_of% @Kd.R_alloc := @Kd.R_alloc
theorem zm : type_of% @Kd.R_drewN := @Kd.R_drewN
theorem zn : type_of% @Kd.R_far := @Kd.R_far
theorem zo : type_of% @i64_w := @i64_w
theorem zp : type_of% @Kd.R_mono := @Kd.R_mono
theorem zq : type_of% @keep_drew := @keep_drew
theorem zr : type_of% @KeepBut.set_ := @KeepBut.set_
theorem zs : type_of% @keep_drewN := @keep_drewN
theorem zt : type_of% @keep_alloc := @keep_alloc
theorem zu : type_of% @keep_far := @keep_far
theorem zv : type_of% @below_step := @below_step
theorem zw : type_of% @Kd.C_alloc := @Kd.C_alloc
theorem zx : type_of% @Kd.C_drewN := @Kd.C_drewN
theorem zy : type_of% @Kd.C_drew := @Kd.C_drew
theorem zz : type_of% @blk_below := @blk_below
theorem zA : type_of% @any_of := @any_of
theorem zB : type_of% @gate_callee := @gate_callee
theorem zC : type_of% @below_size := @below_size
theorem zD : type_of% @Kd.R_reads' := @Kd.R_reads'
theorem zE : type_of% @KeepBut.trans := @KeepBut.trans
theorem zF : type_of% @Kd.C_below := @Kd.C_below
theorem zG : type_of% @KeepBut.blk := @KeepBut.blk
theorem zH : type_of% @Kd.R_types := @Kd.R_types
theorem zI : type_of% @KeepBut.of_below := @KeepBut.of_below
theorem z0_ : type_of% @List.setIfInBounds_toArray := @List.setIfInBounds_toArray
theorem z1_ : type_of% @List.set_cons_zero := @List.set_cons_zero
theorem z2_ : type_of% @List.set_cons_succ := @List.set_cons_succ
theorem z3_ : type_of% @List.map_toArray := @List.map_toArray
theorem z4_ : type_of% @List.map_cons := @List.map_cons
theorem z5_ : type_of% @List.map_nil := @List.map_nil
theorem bindAside {α β : Type} {x : Option α} {f : α → Option β} {y : β} (H : (x.bind f) = some y) : ∃ a, Aside0 (x = some a) ∧ f a = some y := by
  obtain ⟨a, h, g⟩ := Option.bind_eq_some_iff.mp H
  exact ⟨a, ⟨h⟩, g⟩
end Go.Proofs.YtgnmcfoenmfhcaaW.PrintWords
