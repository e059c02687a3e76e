/- Short names for words that stand often. No conditions. -/
import Derived.Test.YtihnjbfjdkdhaaaGreatSFnWeightsOfRooks2
import Derived.Test.YtihnjbfjdkdhaaaGreatSFnWeightsOfRooks3
namespace Go.Proofs.YtihnjbfjdkdhaaaGreatW.PrintWords
open Go.RowKit Go.Proofs.YtihnjbfjdkdhaaaGreatW.PrintWords Go.Proofs.YtihnjbfjdkdhaaaGreatW.PrintLast Go.Proofs.YtihnjbfjdkdhaaaGreatW.PrintMore
theorem za : type_of% @Aside0.mk := @Aside0.mk
theorem zb : type_of% @below_drew1 := @below_drew1
theorem zc : type_of% @below_alloc := @below_alloc
theorem zd : type_of% @pw_below_drewN := @pw_below_drewN
theorem ze : type_of% @Kd.R_drew := @Kd.R_drew
theorem zf : type_of% @Kd.R_alloc := @Kd.R_alloc
theorem zg : type_of% @Kd.R_drewN := @Kd.R_drewN
theorem zh : type_of% @Kd.C_alloc := @Kd.C_alloc
theorem zi : type_of% @Kd.C_drewN := @Kd.C_drewN
theorem zj : type_of% @Kd.C_drew := @Kd.C_drew
theorem zk : type_of% @Kd.R_reads' := @Kd.R_reads'
theorem zl : type_of% @below_set := @below_set
theorem zm : type_of% @below_step := @below_step
theorem zn : type_of% @blk_cell := @blk_cell
theorem zo : type_of% @gate_callee := @gate_callee
theorem zp : type_of% @goesL_ := @goesL_
theorem zq : type_of% @below_size := @below_size
theorem zr : type_of% @Kd.R_below := @Kd.R_below
theorem zs : type_of% @Kd.R_mono := @Kd.R_mono
theorem zt : type_of% @blk_frozen := @blk_frozen
theorem zu : type_of% @blk_drew := @blk_drew
theorem zv : type_of% @blk_drewN := @blk_drewN
theorem zw : type_of% @blk_alloc := @blk_alloc
theorem zx : type_of% @Kd.R_far := @Kd.R_far
theorem zy : type_of% @Kd.R_slice := @Kd.R_slice
theorem zz : type_of% @Kd.at_int := @Kd.at_int
theorem zA : type_of% @Kd.R_lower := @Kd.R_lower
theorem zB : type_of% @blk_below := @blk_below
theorem zC : type_of% @KeepBut.set_ := @KeepBut.set_
theorem zD : type_of% @keep_drewN := @keep_drewN
theorem zE : type_of% @keep_drew := @keep_drew
theorem zF : type_of% @keep_alloc := @keep_alloc
theorem zG : type_of% @Kd.C_below := @Kd.C_below
theorem zH : type_of% @Kd.S_alloc := @Kd.S_alloc
theorem zI : type_of% @Kd.S_drewN := @Kd.S_drewN
theorem z0_ : type_of% @List.setIfInBounds_toArray := @List.setIfInBounds_toArray
theorem z1_ : type_of% @List.set_cons_zero := @List.set_cons_zero
theorem z2_ : type_of% @List.set_cons_succ := @List.set_cons_succ
theorem z3_ : type_of% @List.map_toArray := @List.map_toArray
theorem z4_ : type_of% @List.map_cons := @List.map_cons
theorem z5_ : type_of% @List.map_nil := @List.map_nil
theorem bindAside {α β : Type} {x : Option α} {f : α → Option β} {y : β} (H : (x.bind f) = some y) : ∃ a, Aside0 (x = some a) ∧ f a = some y := by
  obtain ⟨a, h, g⟩ := Option.bind_eq_some_iff.mp H
  exact ⟨a, ⟨h⟩, g⟩
end Go.Proofs.YtihnjbfjdkdhaaaGreatW.PrintWords
