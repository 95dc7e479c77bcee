/- Texts: CW_WorldNew. -/
import Derived.Test.YtmmjaijeeeilcaaGreatDoorW04
set_option linter.unusedVariables false
set_option linter.unusedSimpArgs false
namespace Go.X
set_option maxRecDepth 100000
set_option maxHeartbeats 8000000
def x_l_FnExactWorldNew:FnX:=⟨41,[.tmp 2],
  .q [.F 2]
 (.q [.m 8 0,.c 9 55 [8],.op 3 (.alloc [.i 0,.nils 1,.nils 1,.nils 1,.nils 10,.nils 12,.nils 8,.nils 6,.nils 1]),.s 100001 9 3 9]
 (.q [.m 10 0,.c 11 56 [10],.op 4 (.alloc [.i 0,.nils 1,.nils 1,.nils 1,.nils 10,.nils 12,.nils 8,.nils 6,.nils 1]),.s 100002 9 4 11]
 (.seq (.q [.L 12 9 4,.L 13 9 3,.c 14 51 [12,13],.N 15 14]
 (.c 15 (.q [.F 2]
 .ret)))
 (.q [.i 5 1]
 (.q [.L 16 9 4,.m 17 5,.op 18 (.io 52 (.t 16) [(.t 17)]),.m 5 18]
 (.q [.i 6 1]
 (.q [.L 19 9 4,.m 20 6,.c 21 57 [19,20],.m 6 21]
 (.seq (.q [.m 22 6,.B 23 .lss 22 0]
 (.c 23 (.q [.F 2]
 .ret)))
 (.seq (.q [.m 24 6,.m 25 5,.b 26 .neq 24 25]
 (.c 26 (.q [.F 2]
 .ret)))
 (.q [.m 27 0,.c 28 56 [27],.op 7 (.alloc [.i 0,.nils 1,.nils 1,.nils 1,.nils 10,.nils 12,.nils 8,.nils 6,.nils 1]),.s 100003 9 7 28]
 (.seq (.q [.L 29 9 7,.L 30 9 3,.c 31 51 [29,30],.N 32 31]
 (.c 32 (.q [.F 2]
 .ret)))
 (.q [.i 6 1]
 (.q [.L 33 9 4,.m 34 6,.c 35 57 [33,34],.m 6 35]
 (.seq (.q [.m 36 6,.B 37 .lss 36 0]
 (.c 37 (.q [.F 2]
 .ret)))
 (.seq (.q [.m 38 6,.m 39 5,.b 40 .neq 38 39]
 (.c 40 (.q [.F 2]
 .ret)))
 (.q [.T 2]
 .ret))))))))))))))))⟩
attribute [go_sem] eq_self bne_self_eq_false Bool.xor_self marks_length marks_take take_map WorldV.mark_L_Acked WorldV.take_L_Acked WorldV.mark_L_Ended WorldV.take_L_Ended WorldV.mark_L_At WorldV.take_L_At WorldV.mark_Nodes WorldV.take_Nodes WorldV.mark_Clients WorldV.take_Clients WorldV.mark_Net WorldV.take_Net WorldV.mark_Log WorldV.take_Log WorldV.mark_Maybe WorldV.take_Maybe
theorem r_l_FnExactWorldNew {Te:TE} (c_s_WorldNew:C_s_WorldNew Te) (c_i_WorldNew:C_i_WorldNew Te) (c_l_eqWorld:C_l_eqWorld Te) (c_l_markWorld:C_l_markWorld Te) (c_l_heldWorld:C_l_heldWorld Te):C_l_FnExactWorldNew (RF Te x_l_FnExactWorldNew):=by
 intro aCs
 refine run0 ?_
 simp -implicitDefEqProofs (maxSteps:=1000000) only [x_l_FnExactWorldNew,go_sem]
 refine C0 (c_s_WorldNew aCs) ?_
 refine C0 (c_i_WorldNew aCs) ?_
 refine C0 (c_l_eqWorld (worldNew aCs) (worldNew aCs) (worldNew_len aCs)) ?_
 refine C0 (c_l_markWorld (worldNew aCs) 1 (worldNew_len aCs) (by decide) (worldNew_far _)) ?_
 refine C0 (c_l_heldWorld (worldNew aCs) 1 (worldNew_len aCs) (by decide) (worldNew_far _)) ?_
 have f_q:decide (((worldNew aCs).far 1) < 0)=false:=decide_eq_false (by have:=WorldV.far_ge (worldNew_len aCs) 1; omega)
 refine G1 f_q ?_
 refine C0 (c_i_WorldNew aCs) ?_
 refine C0 (c_l_eqWorld (worldNew aCs) (worldNew aCs) (worldNew_len aCs)) ?_
 refine C0 (c_l_heldWorld (worldNew aCs) 1 (worldNew_len aCs) (by decide) (worldNew_far _)) ?_
 exact F1 f_q
end Go.X

