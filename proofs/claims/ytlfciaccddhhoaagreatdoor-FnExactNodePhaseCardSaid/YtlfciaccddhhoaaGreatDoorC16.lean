/- Texts: CW_NodePhase. -/
import Derived.Test.YtlfciaccddhhoaaGreatDoorC04
set_option linter.unusedVariables false
set_option linter.unusedSimpArgs false
namespace Go.X
set_option maxRecDepth 100000
set_option maxHeartbeats 8000000
def x_l_FnExactNodePhase_1:XCode:=.q [.i 11 1]
 (.q [.L 50 10 8,.m 51 11,.op 52 (.io 15 (.t 50) [(.t 51)]),.m 11 52]
 (.seq (.q [.m 53 11,.B 54 .lss 53 0,.m 55 54,.z 55 (.L 56 10 9),.z 55 (.L 57 10 6),.z 55 (.c 58 13 [56,57]),.z 55 (.N 59 58),.r 60 55 59,.m 61 60,.z 61 (.m 62 10),.z 61 (.m 63 7),.z 61 (.op 64 (.beq true (.t 62) (.t 63))),.r 65 61 64]
 (.c 65 (.q [.F 4]
 .ret)))
 (.q [.i 12 1]
 (.q [.L 66 10 9,.m 67 12,.op 68 (.io 15 (.t 66) [(.t 67)]),.m 12 68]
 (.q [.i 13 1]
 (.q [.L 69 10 9,.m 70 13,.c 71 17 [69,70],.m 13 71]
 (.seq (.q [.m 72 13,.B 73 .lss 72 0]
 (.c 73 (.q [.F 4]
 .ret)))
 (.seq (.q [.m 74 13,.m 75 12,.b 76 .neq 74 75]
 (.c 76 (.q [.F 4]
 .ret)))
 (.q [.L 78 10 2,.c 79 10 [78],.m 80 1,.c 81 19 [79,80],.m 77 81,.e 82 77 0,.e 83 77 1,.op 14 (.alloc [.nils 1,.nils 2,.i 0,.F,.nils 7,.i 0,.nils 3,.i 0,.i 0,.i 0]),.s 100004 10 14 82,.m 15 83]
 (.seq (.q [.L 84 10 14,.L 85 10 6,.c 86 13 [84,85],.N 87 86,.m 88 87,.z 88 (.m 89 15),.z 88 (.m 90 7),.z 88 (.op 91 (.beq true (.t 89) (.t 90))),.r 92 88 91]
 (.c 92 (.q [.F 4]
 .ret)))
 (.q [.i 13 1]
 (.q [.L 93 10 9,.m 94 13,.c 95 17 [93,94],.m 13 95]
 (.seq (.q [.m 96 13,.B 97 .lss 96 0]
 (.c 97 (.q [.F 4]
 .ret)))
 (.seq (.q [.m 98 13,.m 99 12,.b 100 .neq 98 99]
 (.c 100 (.q [.F 4]
 .ret)))
 (.q [.T 4]
 .ret)))))))))))))))
def x_l_FnExactNodePhase:FnX:=⟨101,[.tmp 4],
  .q [.v 2 0,.F 4]
 (.q [.i 5 1048576]
 (.q [.L 16 10 2,.m 17 5,.c 18 8 [16,17],.m 5 18]
 (.seq (.q [.m 19 5,.B 20 .lss 19 0]
 (.c 20 (.q [.T 4]
 .ret)))
 (.q [.L 22 10 2,.c 23 10 [22],.m 24 1,.c 25 18 [23,24],.m 21 25,.e 26 21 0,.e 27 21 1,.op 6 (.alloc [.nils 1,.nils 2,.i 0,.F,.nils 7,.i 0,.nils 3,.i 0,.i 0,.i 0]),.s 100001 10 6 26,.m 7 27]
 (.q [.L 28 10 2,.c 29 10 [28],.op 8 (.alloc [.nils 1,.nils 2,.i 0,.F,.nils 7,.i 0,.nils 3,.i 0,.i 0,.i 0]),.s 100002 10 8 29]
 (.q [.L 31 10 8,.m 32 1,.c 33 19 [31,32],.m 30 33,.e 34 30 0,.e 35 30 1,.op 9 (.alloc [.nils 1,.nils 2,.i 0,.F,.nils 7,.i 0,.nils 3,.i 0,.i 0,.i 0]),.s 100003 10 9 34,.m 10 35]
 (.seq (.q [.L 36 10 9,.L 37 10 6,.c 38 13 [36,37],.N 39 38,.m 40 39,.z 40 (.m 41 10),.z 40 (.m 42 7),.z 40 (.op 43 (.beq true (.t 41) (.t 42))),.r 44 40 43]
 (.c 44 (.q [.F 4]
 .ret)))
 (.seq (.seq (.draw [.L 45 10 8,.L 46 10 2,.c 47 10 [46],.c 48 13 [45,47],.N 49 48] [[],[],[1],[0,2,2],[3]])
 (.c 49 (.q [.F 4]
 .ret)))
 (.norm [1,2,6,7,8,9,10] (x_l_FnExactNodePhase_1))))))))))⟩
attribute [go_sem] eq_self bne_self_eq_false Bool.xor_self marks_length marks_take take_map NodeV.mark_S_D_Secs NodeV.take_S_D_Secs NodeV.mark_S_D_Cache NodeV.take_S_D_Cache NodeV.mark_S_T_Rows NodeV.take_S_T_Rows NodeV.mark_S_T_Marks NodeV.take_S_T_Marks
theorem r_l_FnExactNodePhase {Te:TE} (c_l_szNode:C_l_szNode Te) (c_l_toNode:C_l_toNode Te) (c_s_NodePhase:C_s_NodePhase Te) (c_i_NodePhase:C_i_NodePhase Te) (c_l_eqNode:C_l_eqNode Te) (c_l_markNode:C_l_markNode Te) (c_l_heldNode:C_l_heldNode Te):C_l_FnExactNodePhase (RF Te x_l_FnExactNodePhase):=by
 intro aN aP h_aN
 refine run0 ?_
 simp -implicitDefEqProofs (maxSteps:=1000000) only [x_l_FnExactNodePhase,go_sem]
 refine .of (c_l_szNode aN (1048576) h_aN (by omega)) ?_
 simp -implicitDefEqProofs (maxSteps:=1000000) only [go_sem]
 refine fun q0=>?_
 replace q0:0≤(szNode aN (1048576)):=by simpa using q0
 have cb_aN:(0:Int)≤(1048576)∧(1048576)≤(1048576:Int):=by omega
 have n_aN:aN.In (1048576):=szNode_in (n:=1048576) cb_aN.1 cb_aN.2 q0
 have b_aN:0≤(szNode aN (1048576))∧(szNode aN (1048576))≤1048576:=⟨q0,Int.le_trans (szNode_sane aN _ cb_aN.1) cb_aN.2⟩
 refine C0 (c_l_toNode aN (n_aN.len (by decide))) ?_
 have lg:(aN.phase aP).1.Len:=(phase_in (n_aN.mono (by decide))).len (by decide)
 refine C0 (c_s_NodePhase aN aP (n_aN.mono (by decide))) ?_
 refine C0 (c_l_toNode aN (n_aN.len (by decide))) ?_
 refine C0 (c_i_NodePhase aN aP (n_aN.mono (by decide))) ?_
 refine C0 (c_l_eqNode ((aN.phase aP).1) ((aN.phase aP).1) lg) ?_
 refine C0 (c_l_toNode aN (n_aN.len (by decide))) ?_
 refine C0 (c_l_eqNode (aN) (aN) (n_aN.len (by decide))) ?_
 refine G1 (x_l_FnExactNodePhase_1.eq_1) ?_
 refine C0 (c_l_markNode (aN) 1 (n_aN.len (by decide)) (by omega)) ?_
 repeat (refine back_bif (by rfl) ?_; try simp -implicitDefEqProofs (maxSteps:=1000000) only [go_sem])
 have f_k:decide (((aN).far 1) < 0)=false:=decide_eq_false (by have:=NodeV.far_le (n_aN.len (by decide)) 1; omega)
 refine G1 f_k ?_
 refine C0 (c_l_eqNode ((aN.phase aP).1) ((aN.phase aP).1) lg) ?_
 refine C0 (c_l_markNode ((aN.phase aP).1) 1 lg (by have:=NodeV.far_le (n_aN.len (by decide)) 1; omega)) ?_
 repeat (refine back_bif (by rfl) ?_; try simp -implicitDefEqProofs (maxSteps:=1000000) only [go_sem])
 refine C0 (c_l_heldNode ((aN.phase aP).1) 1 lg (by have:=NodeV.far_le (n_aN.len (by decide)) 1; have:=NodeV.far_le lg 1; omega)) ?_
 have f_q:decide ((((aN.phase aP).1).far 1) < 0)=false:=decide_eq_false (by have:=NodeV.far_le (n_aN.len (by decide)) 1; have:=NodeV.far_le lg 1; have:=NodeV.far_le lg 1; omega)
 refine G1 f_q ?_
 refine C0 (c_l_toNode aN (n_aN.len (by decide))) ?_
 refine C0 (c_i_NodePhase aN aP (n_aN.mono (by decide))) ?_
 refine C0 (c_l_eqNode ((aN.phase aP).1) ((aN.phase aP).1) lg) ?_
 refine C0 (c_l_heldNode ((aN.phase aP).1) 1 lg (by have:=NodeV.far_le (n_aN.len (by decide)) 1; have:=NodeV.far_le lg 1; have:=NodeV.far_le lg 1; omega)) ?_
 exact F1 f_q
end Go.X

