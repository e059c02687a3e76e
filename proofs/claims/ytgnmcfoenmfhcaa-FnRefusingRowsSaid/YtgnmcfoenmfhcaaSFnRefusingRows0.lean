/- Short names for words that stand often. No conditions. -/
import Derived.Test.YtgnmcfoenmfhcaaSFnRefusingRows2
import Derived.Test.YtgnmcfoenmfhcaaSFnRefusingRows3
namespace Go.Proofs.YtgnmcfoenmfhcaaW.PrintWords
open Go.RowKit Go.Proofs.YtgnmcfoenmfhcaaW.PrintWords Go.Proofs.YtgnmcfoenmfhcaaW.PrintLast Go.Proofs.YtgnmcfoenmfhcaaW.PrintMore
theorem za : type_of% @Aside0.mk := @Aside0.mk
theorem zb : type_of% @below_drew1 := @below_drew1
theorem zc : type_of% @below_alloc := @below_alloc
theorem zd : type_of% @below_set := @below_set
theorem ze : type_of% @pw_below_drewN := @pw_below_drewN
theorem zf : type_of% @blk_drew := @blk_drew
theorem zg : type_of% @blk_cell := @blk_cell
theorem zh : type_of% @blk_drewN := @blk_drewN
theorem zi : type_of% @blk_alloc := @blk_alloc
theorem zj : type_of% @blk_frozen := @blk_frozen
theorem zk : type_of% @Kd.R_drew := @Kd.R_drew
theorem zl : type_of% @Kd.R_alloc := @Kd.R_alloc
theorem zm : type_of% @Kd.R_drewN := @Kd.R_drewN
theorem zn : type_of% @below_size := @below_size
theorem zo : type_of% @keep_far := @keep_far
theorem zp : type_of% @keep_drew := @keep_drew
theorem zq : type_of% @KeepBut.set_ := @KeepBut.set_
theorem zr : type_of% @keep_drewN := @keep_drewN
theorem zs : type_of% @keep_alloc := @keep_alloc
theorem zt : type_of% @Kd.R_far := @Kd.R_far
theorem zu : type_of% @gate_callee := @gate_callee
theorem zv : type_of% @below_step := @below_step
theorem zw : type_of% @Kd.C_alloc := @Kd.C_alloc
theorem zx : type_of% @Kd.C_drewN := @Kd.C_drewN
theorem zy : type_of% @Kd.C_drew := @Kd.C_drew
theorem zz : type_of% @Kd.R_mono := @Kd.R_mono
theorem zA : type_of% @Kd.R_reads' := @Kd.R_reads'
theorem zB : type_of% @blk_below := @blk_below
theorem zC : type_of% @KeepBut.trans := @KeepBut.trans
theorem zD : type_of% @KeepBut.blk := @KeepBut.blk
theorem zE : type_of% @Kd.C_below := @Kd.C_below
end Go.Proofs.YtgnmcfoenmfhcaaW.PrintWords
