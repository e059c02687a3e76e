/- Short names for words that stand often. No conditions. -/
import Derived.Test.YtiopnmgcajohfaaSFnKnownHits2
import Derived.Test.YtiopnmgcajohfaaSFnKnownHits3
namespace Go.Proofs.YtiopnmgcajohfaaW.PrintWords
open Go.RowKit Go.Proofs.YtiopnmgcajohfaaW.PrintWords Go.Proofs.YtiopnmgcajohfaaW.PrintLast Go.Proofs.YtiopnmgcajohfaaW.PrintMore
theorem za : type_of% @Aside0.mk := @Aside0.mk
theorem zb : type_of% @blk_drew := @blk_drew
theorem zc : type_of% @below_set := @below_set
theorem zd : type_of% @blk_drewN := @blk_drewN
theorem ze : type_of% @blk_alloc := @blk_alloc
theorem zf : type_of% @Kd.R_drew := @Kd.R_drew
theorem zg : type_of% @Kd.R_alloc := @Kd.R_alloc
theorem zh : type_of% @Kd.R_drewN := @Kd.R_drewN
theorem zi : type_of% @below_drew1 := @below_drew1
theorem zj : type_of% @below_alloc := @below_alloc
theorem zk : type_of% @pw_below_drewN := @pw_below_drewN
theorem zl : type_of% @blk_cell := @blk_cell
theorem zm : type_of% @blk_frozen := @blk_frozen
theorem zn : type_of% @Kd.R_far := @Kd.R_far
theorem zo : type_of% @blk_below := @blk_below
theorem zp : type_of% @Kd.R_mono := @Kd.R_mono
theorem zq : type_of% @below_size := @below_size
theorem zr : type_of% @Kd.R_below := @Kd.R_below
theorem zs : type_of% @blk_far := @blk_far
theorem zt : type_of% @gate_callee := @gate_callee
theorem zu : type_of% @below_step := @below_step
theorem zv : type_of% @Kd.R_reads' := @Kd.R_reads'
theorem zw : type_of% @Kd.R_types := @Kd.R_types
theorem zx : type_of% @Kd.R_elder' := @Kd.R_elder'
theorem z0_ : type_of% @List.setIfInBounds_toArray := @List.setIfInBounds_toArray
theorem z1_ : type_of% @List.set_cons_zero := @List.set_cons_zero
theorem z2_ : type_of% @List.set_cons_succ := @List.set_cons_succ
theorem z3_ : type_of% @List.map_toArray := @List.map_toArray
theorem z4_ : type_of% @List.map_cons := @List.map_cons
theorem z5_ : type_of% @List.map_nil := @List.map_nil
theorem bindAside {α β : Type} {x : Option α} {f : α → Option β} {y : β} (H : (x.bind f) = some y) : ∃ a, Aside0 (x = some a) ∧ f a = some y := by
  obtain ⟨a, h, g⟩ := Option.bind_eq_some_iff.mp H
  exact ⟨a, ⟨h⟩, g⟩
end Go.Proofs.YtiopnmgcajohfaaW.PrintWords
