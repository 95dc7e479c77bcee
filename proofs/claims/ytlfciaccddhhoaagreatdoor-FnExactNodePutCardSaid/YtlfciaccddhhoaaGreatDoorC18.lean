/- Texts: CW_NodeStep. -/
import Derived.Test.YtlfciaccddhhoaaGreatDoorC04
set_option linter.unusedVariables false
set_option linter.unusedSimpArgs false
namespace Go.X
set_option maxRecDepth 100000
set_option maxHeartbeats 8000000
def x_l_FnExactNodeStep_1:XCode:=.q [.i 15 1]
 (.q [.L 73 10 10,.m 74 15,.op 75 (.io 15 (.t 73) [(.t 74)]),.m 15 75]
 (.seq (.q [.m 76 15,.B 77 .lss 76 0,.m 78 77,.z 78 (.L 79 10 11),.z 78 (.L 80 10 6),.z 78 (.c 81 13 [79,80]),.z 78 (.N 82 81),.r 83 78 82,.m 84 83,.z 84 (.m 85 12),.z 84 (.m 86 7),.z 84 (.b 87 .neq 85 86),.r 88 84 87,.m 89 88,.z 89 (.m 90 13),.z 89 (.m 91 8),.z 89 (.b 92 .neq 90 91),.r 93 89 92,.m 94 93,.z 94 (.m 95 14),.z 94 (.m 96 9),.z 94 (.op 97 (.beq true (.t 95) (.t 96))),.r 98 94 97]
 (.c 98 (.q [.F 4]
 .ret)))
 (.q [.i 16 1]
 (.q [.L 99 10 11,.m 100 16,.op 101 (.io 15 (.t 99) [(.t 100)]),.m 16 101]
 (.q [.i 17 1]
 (.q [.L 102 10 11,.m 103 17,.c 104 17 [102,103],.m 17 104]
 (.seq (.q [.m 105 17,.B 106 .lss 105 0]
 (.c 106 (.q [.F 4]
 .ret)))
 (.seq (.q [.m 107 17,.m 108 16,.b 109 .neq 107 108]
 (.c 109 (.q [.F 4]
 .ret)))
 (.q [.L 111 10 2,.c 112 10 [111],.m 113 1,.c 114 25 [112,113],.m 110 114,.e 115 110 0,.e 116 110 1,.e 117 110 2,.e 118 110 3,.op 18 (.alloc [.nils 1,.nils 2,.i 0,.F,.nils 7,.i 0,.nils 3,.i 0,.i 0,.i 0]),.s 100004 10 18 115,.m 19 116,.m 20 117,.m 21 118]
 (.seq (.q [.L 119 10 18,.L 120 10 6,.c 121 13 [119,120],.N 122 121,.m 123 122,.z 123 (.m 124 19),.z 123 (.m 125 7),.z 123 (.b 126 .neq 124 125),.r 127 123 126,.m 128 127,.z 128 (.m 129 20),.z 128 (.m 130 8),.z 128 (.b 131 .neq 129 130),.r 132 128 131,.m 133 132,.z 133 (.m 134 21),.z 133 (.m 135 9),.z 133 (.op 136 (.beq true (.t 134) (.t 135))),.r 137 133 136]
 (.c 137 (.q [.F 4]
 .ret)))
 (.q [.i 17 1]
 (.q [.L 138 10 11,.m 139 17,.c 140 17 [138,139],.m 17 140]
 (.seq (.q [.m 141 17,.B 142 .lss 141 0]
 (.c 142 (.q [.F 4]
 .ret)))
 (.seq (.q [.m 143 17,.m 144 16,.b 145 .neq 143 144]
 (.c 145 (.q [.F 4]
 .ret)))
 (.q [.T 4]
 .ret)))))))))))))))
def x_l_FnExactNodeStep:FnX:=⟨146,[.tmp 4],
  .q [.v 2 0,.F 4]
 (.seq (.q [.m 22 1,.op 23 (.slen (.t 22)),.B 24 .gtr 23 1048576]
 (.c 24 (.q [.T 4]
 .ret)))
 (.q [.i 5 1048576]
 (.q [.L 25 10 2,.m 26 5,.c 27 8 [25,26],.m 5 27]
 (.seq (.q [.m 28 5,.B 29 .lss 28 0]
 (.c 29 (.q [.T 4]
 .ret)))
 (.q [.L 31 10 2,.c 32 10 [31],.m 33 1,.c 34 24 [32,33],.m 30 34,.e 35 30 0,.e 36 30 1,.e 37 30 2,.e 38 30 3,.op 6 (.alloc [.nils 1,.nils 2,.i 0,.F,.nils 7,.i 0,.nils 3,.i 0,.i 0,.i 0]),.s 100001 10 6 35,.m 7 36,.m 8 37,.m 9 38]
 (.q [.L 39 10 2,.c 40 10 [39],.op 10 (.alloc [.nils 1,.nils 2,.i 0,.F,.nils 7,.i 0,.nils 3,.i 0,.i 0,.i 0]),.s 100002 10 10 40]
 (.q [.L 42 10 10,.m 43 1,.c 44 25 [42,43],.m 41 44,.e 45 41 0,.e 46 41 1,.e 47 41 2,.e 48 41 3,.op 11 (.alloc [.nils 1,.nils 2,.i 0,.F,.nils 7,.i 0,.nils 3,.i 0,.i 0,.i 0]),.s 100003 10 11 45,.m 12 46,.m 13 47,.m 14 48]
 (.seq (.q [.L 49 10 11,.L 50 10 6,.c 51 13 [49,50],.N 52 51,.m 53 52,.z 53 (.m 54 12),.z 53 (.m 55 7),.z 53 (.b 56 .neq 54 55),.r 57 53 56,.m 58 57,.z 58 (.m 59 13),.z 58 (.m 60 8),.z 58 (.b 61 .neq 59 60),.r 62 58 61,.m 63 62,.z 63 (.m 64 14),.z 63 (.m 65 9),.z 63 (.op 66 (.beq true (.t 64) (.t 65))),.r 67 63 66]
 (.c 67 (.q [.F 4]
 .ret)))
 (.seq (.seq (.draw [.L 68 10 10,.L 69 10 2,.c 70 10 [69],.c 71 13 [68,70],.N 72 71] [[],[],[1],[0,2,2],[3]])
 (.c 72 (.q [.F 4]
 .ret)))
 (.norm [1,2,6,7,8,9,10,11,12,13,14] (x_l_FnExactNodeStep_1)))))))))))⟩
attribute [go_sem] eq_self bne_self_eq_false Bool.xor_self marks_length marks_take take_map NodeV.mark_S_D_Secs NodeV.take_S_D_Secs NodeV.mark_S_D_Cache NodeV.take_S_D_Cache NodeV.mark_S_T_Rows NodeV.take_S_T_Rows NodeV.mark_S_T_Marks NodeV.take_S_T_Marks
theorem r_l_FnExactNodeStep {Te:TE} (c_l_szNode:C_l_szNode Te) (c_l_toNode:C_l_toNode Te) (c_s_NodeStep:C_s_NodeStep Te) (c_i_NodeStep:C_i_NodeStep Te) (c_l_eqNode:C_l_eqNode Te) (c_l_markNode:C_l_markNode Te) (c_l_heldNode:C_l_heldNode Te):C_l_FnExactNodeStep (RF Te x_l_FnExactNodeStep):=by
 intro aN aFrom h_aN h_aFrom
 refine run0 ?_
 simp -implicitDefEqProofs (maxSteps:=1000000) only [x_l_FnExactNodeStep,go_sem]
 refine fun q0=>?_
 have n_aFrom:aFrom.size≤1048576:=by simp only [decide_eq_false_iff_not] at q0; omega
 refine .of (c_l_szNode aN (1048576) h_aN (by omega)) ?_
 simp -implicitDefEqProofs (maxSteps:=1000000) only [go_sem]
 refine fun q1=>?_
 replace q1:0≤(szNode aN (1048576)):=by simpa using q1
 have cb_aN:(0:Int)≤(1048576)∧(1048576)≤(1048576:Int):=by omega
 have n_aN:aN.In (1048576):=szNode_in (n:=1048576) cb_aN.1 cb_aN.2 q1
 have b_aN:0≤(szNode aN (1048576))∧(szNode aN (1048576))≤1048576:=⟨q1,Int.le_trans (szNode_sane aN _ cb_aN.1) cb_aN.2⟩
 refine C0 (c_l_toNode aN (n_aN.len (by decide))) ?_
 have lg:(aN.step aFrom).1.Len:=(step_in (n_aN.mono (by decide))).len (by decide)
 refine C0 (c_s_NodeStep aN aFrom (n_aN.mono (by decide))) ?_
 refine C0 (c_l_toNode aN (n_aN.len (by decide))) ?_
 refine C0 (c_i_NodeStep aN aFrom (n_aN.mono (by decide))) ?_
 refine C0 (c_l_eqNode ((aN.step aFrom).1) ((aN.step aFrom).1) lg) ?_
 refine C0 (c_l_toNode aN (n_aN.len (by decide))) ?_
 refine C0 (c_l_eqNode (aN) (aN) (n_aN.len (by decide))) ?_
 refine G1 (x_l_FnExactNodeStep_1.eq_1) ?_
 refine C0 (c_l_markNode (aN) 1 (n_aN.len (by decide)) (by omega)) ?_
 repeat (refine back_bif (by rfl) ?_; try simp -implicitDefEqProofs (maxSteps:=1000000) only [go_sem])
 have f_k:decide (((aN).far 1) < 0)=false:=decide_eq_false (by have:=NodeV.far_le (n_aN.len (by decide)) 1; omega)
 refine G1 f_k ?_
 refine C0 (c_l_eqNode ((aN.step aFrom).1) ((aN.step aFrom).1) lg) ?_
 refine C0 (c_l_markNode ((aN.step aFrom).1) 1 lg (by have:=NodeV.far_le (n_aN.len (by decide)) 1; omega)) ?_
 repeat (refine back_bif (by rfl) ?_; try simp -implicitDefEqProofs (maxSteps:=1000000) only [go_sem])
 refine C0 (c_l_heldNode ((aN.step aFrom).1) 1 lg (by have:=NodeV.far_le (n_aN.len (by decide)) 1; have:=NodeV.far_le lg 1; omega)) ?_
 have f_q:decide ((((aN.step aFrom).1).far 1) < 0)=false:=decide_eq_false (by have:=NodeV.far_le (n_aN.len (by decide)) 1; have:=NodeV.far_le lg 1; have:=NodeV.far_le lg 1; omega)
 refine G1 f_q ?_
 refine C0 (c_l_toNode aN (n_aN.len (by decide))) ?_
 refine C0 (c_i_NodeStep aN aFrom (n_aN.mono (by decide))) ?_
 refine C0 (c_l_eqNode ((aN.step aFrom).1) ((aN.step aFrom).1) lg) ?_
 refine C0 (c_l_heldNode ((aN.step aFrom).1) 1 lg (by have:=NodeV.far_le (n_aN.len (by decide)) 1; have:=NodeV.far_le lg 1; have:=NodeV.far_le lg 1; omega)) ?_
 exact F1 f_q
end Go.X

