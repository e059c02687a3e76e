/- Short names for words that stand often. No conditions. -/
import Derived.Test.YtpjjeeabpaojnaaGreatSFnLargestHaveCovers2
import Derived.Test.YtpjjeeabpaojnaaGreatSFnLargestHaveCovers3
namespace Go.Proofs.YtpjjeeabpaojnaaGreatW.PrintWords
open Go.RowKit Go.Proofs.YtpjjeeabpaojnaaGreatW.PrintWords Go.Proofs.YtpjjeeabpaojnaaGreatW.PrintLast Go.Proofs.YtpjjeeabpaojnaaGreatW.PrintMore
theorem za : type_of% @Aside0.mk := @Aside0.mk
theorem zb : type_of% @below_drew1 := @below_drew1
theorem zc : type_of% @below_alloc := @below_alloc
theorem zd : type_of% @pw_below_drewN := @pw_below_drewN
theorem ze : type_of% @blk_cell := @blk_cell
theorem zf : type_of% @blk_frozen := @blk_frozen
theorem zg : type_of% @below_set := @below_set
theorem zh : type_of% @blk_drew := @blk_drew
theorem zi : type_of% @below_size := @below_size
theorem zj : type_of% @blk_drewN := @blk_drewN
theorem zk : type_of% @blk_alloc := @blk_alloc
theorem zl : type_of% @below_step := @below_step
theorem zm : type_of% @Kd.C_alloc := @Kd.C_alloc
theorem zn : type_of% @Kd.C_drewN := @Kd.C_drewN
theorem zo : type_of% @Kd.C_drew := @Kd.C_drew
theorem zp : type_of% @blk_below := @blk_below
theorem zq : type_of% @Kd.C_below := @Kd.C_below
theorem zr : type_of% @Kd.R_drew := @Kd.R_drew
theorem zs : type_of% @Kd.R_alloc := @Kd.R_alloc
theorem zt : type_of% @Kd.R_drewN := @Kd.R_drewN
theorem zu : type_of% @gate_callee := @gate_callee
theorem zv : type_of% @gate_dst := @gate_dst
theorem zw : type_of% @box_event := @box_event
theorem zx : type_of% @Kd.at_int := @Kd.at_int
theorem zy : type_of% @Kd.N_drew := @Kd.N_drew
theorem zz : type_of% @Kd.N_alloc := @Kd.N_alloc
theorem zA : type_of% @Kd.N_drewN := @Kd.N_drewN
theorem z0_ : type_of% @List.setIfInBounds_toArray := @List.setIfInBounds_toArray
theorem z1_ : type_of% @List.set_cons_zero := @List.set_cons_zero
theorem z2_ : type_of% @List.set_cons_succ := @List.set_cons_succ
theorem z3_ : type_of% @List.map_toArray := @List.map_toArray
theorem z4_ : type_of% @List.map_cons := @List.map_cons
theorem z5_ : type_of% @List.map_nil := @List.map_nil
theorem bindAside {α β : Type} {x : Option α} {f : α → Option β} {y : β} (H : (x.bind f) = some y) : ∃ a, Aside0 (x = some a) ∧ f a = some y := by
  obtain ⟨a, h, g⟩ := Option.bind_eq_some_iff.mp H
  exact ⟨a, ⟨h⟩, g⟩
end Go.Proofs.YtpjjeeabpaojnaaGreatW.PrintWords
