/- Short names for words that stand often. No conditions. -/
import Derived.Test.YtiopnmgcajohfaaSFnPermutationsHit2
import Derived.Test.YtiopnmgcajohfaaSFnPermutationsHit3
namespace Go.Proofs.YtiopnmgcajohfaaW.PrintWords
open Go.RowKit Go.Proofs.YtiopnmgcajohfaaW.PrintWords Go.Proofs.YtiopnmgcajohfaaW.PrintLast Go.Proofs.YtiopnmgcajohfaaW.PrintMore
theorem za : type_of% @Aside0.mk := @Aside0.mk
theorem zb : type_of% @below_drew1 := @below_drew1
theorem zc : type_of% @below_alloc := @below_alloc
theorem zd : type_of% @pw_below_drewN := @pw_below_drewN
theorem ze : type_of% @below_set := @below_set
theorem zf : type_of% @blk_drew := @blk_drew
theorem zg : type_of% @blk_drewN := @blk_drewN
theorem zh : type_of% @blk_alloc := @blk_alloc
theorem zi : type_of% @blk_cell := @blk_cell
theorem zj : type_of% @blk_frozen := @blk_frozen
theorem zk : type_of% @Kd.R_drew := @Kd.R_drew
theorem zl : type_of% @Kd.R_alloc := @Kd.R_alloc
theorem zm : type_of% @Kd.R_drewN := @Kd.R_drewN
theorem zn : type_of% @Kd.R_far := @Kd.R_far
theorem zo : type_of% @below_size := @below_size
theorem zp : type_of% @Kd.C_alloc := @Kd.C_alloc
theorem zq : type_of% @Kd.C_drewN := @Kd.C_drewN
theorem zr : type_of% @Kd.C_drew := @Kd.C_drew
theorem zs : type_of% @keep_drew := @keep_drew
theorem zt : type_of% @KeepBut.set_ := @KeepBut.set_
theorem zu : type_of% @keep_drewN := @keep_drewN
theorem zv : type_of% @keep_alloc := @keep_alloc
theorem zw : type_of% @below_step := @below_step
theorem zx : type_of% @keep_far := @keep_far
theorem zy : type_of% @gate_callee := @gate_callee
theorem zz : type_of% @Kd.R_mono := @Kd.R_mono
theorem zA : type_of% @blk_below := @blk_below
theorem zB : type_of% @Kd.R_reads' := @Kd.R_reads'
theorem zC : type_of% @Kd.N_alloc := @Kd.N_alloc
theorem zD : type_of% @Kd.N_drewN := @Kd.N_drewN
theorem zE : type_of% @Kd.N_drew := @Kd.N_drew
theorem zF : type_of% @gate_dst := @gate_dst
theorem zG : type_of% @box_event := @box_event
theorem zH : type_of% @KeepBut.trans := @KeepBut.trans
theorem zI : type_of% @Kd.R_below := @Kd.R_below
theorem zJ : type_of% @KeepBut.blk := @KeepBut.blk
end Go.Proofs.YtiopnmgcajohfaaW.PrintWords
