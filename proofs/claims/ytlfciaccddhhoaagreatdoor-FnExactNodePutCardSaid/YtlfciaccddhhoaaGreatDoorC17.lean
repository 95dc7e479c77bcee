/- Texts: CW_NodePut. -/
import Derived.Test.YtlfciaccddhhoaaGreatDoorC04
set_option linter.unusedVariables false
set_option linter.unusedSimpArgs false
namespace Go.X
set_option maxRecDepth 100000
set_option maxHeartbeats 8000000
def x_l_FnExactNodePut_1:XCode:=.q [.i 19 1]
 (.q [.L 78 10 15,.m 79 19,.op 80 (.io 15 (.t 78) [(.t 79)]),.m 19 80]
 (.seq (.q [.m 81 19,.B 82 .lss 81 0,.m 83 82,.z 83 (.L 84 10 16),.z 83 (.L 85 10 12),.z 83 (.c 86 13 [84,85]),.z 83 (.N 87 86),.r 88 83 87,.m 89 88,.z 89 (.m 90 17),.z 89 (.m 91 13),.z 89 (.b 92 .neq 90 91),.r 93 89 92,.m 94 93,.z 94 (.m 95 18),.z 94 (.m 96 14),.z 94 (.op 97 (.beq true (.t 95) (.t 96))),.r 98 94 97]
 (.c 98 (.q [.F 10]
 .ret)))
 (.q [.i 20 1]
 (.q [.L 99 10 16,.m 100 20,.op 101 (.io 15 (.t 99) [(.t 100)]),.m 20 101]
 (.q [.i 21 1]
 (.q [.L 102 10 16,.m 103 21,.c 104 17 [102,103],.m 21 104]
 (.seq (.q [.m 105 21,.B 106 .lss 105 0]
 (.c 106 (.q [.F 10]
 .ret)))
 (.seq (.q [.m 107 21,.m 108 20,.b 109 .neq 107 108]
 (.c 109 (.q [.F 10]
 .ret)))
 (.q [.L 111 10 5,.c 112 10 [111],.m 113 1,.m 114 2,.m 115 3,.m 116 4,.c 117 23 [112,113,114,115,116],.m 110 117,.e 118 110 0,.e 119 110 1,.e 120 110 2,.op 22 (.alloc [.nils 1,.nils 2,.i 0,.F,.nils 7,.i 0,.nils 3,.i 0,.i 0,.i 0]),.s 100004 10 22 118,.m 23 119,.m 24 120]
 (.seq (.q [.L 121 10 22,.L 122 10 12,.c 123 13 [121,122],.N 124 123,.m 125 124,.z 125 (.m 126 23),.z 125 (.m 127 13),.z 125 (.b 128 .neq 126 127),.r 129 125 128,.m 130 129,.z 130 (.m 131 24),.z 130 (.m 132 14),.z 130 (.op 133 (.beq true (.t 131) (.t 132))),.r 134 130 133]
 (.c 134 (.q [.F 10]
 .ret)))
 (.q [.i 21 1]
 (.q [.L 135 10 16,.m 136 21,.c 137 17 [135,136],.m 21 137]
 (.seq (.q [.m 138 21,.B 139 .lss 138 0]
 (.c 139 (.q [.F 10]
 .ret)))
 (.seq (.q [.m 140 21,.m 141 20,.b 142 .neq 140 141]
 (.c 142 (.q [.F 10]
 .ret)))
 (.q [.T 10]
 .ret)))))))))))))))
def x_l_FnExactNodePut:FnX:=⟨143,[.tmp 10],
  .q [.v 5 0,.F 10]
 (.seq (.q [.m 25 3,.op 26 (.slen (.t 25)),.B 27 .gtr 26 1048576]
 (.c 27 (.q [.T 10]
 .ret)))
 (.seq (.q [.m 28 4,.op 29 (.slen (.t 28)),.B 30 .gtr 29 1048576]
 (.c 30 (.q [.T 10]
 .ret)))
 (.q [.i 11 1048576]
 (.q [.L 31 10 5,.m 32 11,.c 33 8 [31,32],.m 11 33]
 (.seq (.q [.m 34 11,.B 35 .lss 34 0]
 (.c 35 (.q [.T 10]
 .ret)))
 (.q [.L 37 10 5,.c 38 10 [37],.m 39 1,.m 40 2,.m 41 3,.m 42 4,.c 43 22 [38,39,40,41,42],.m 36 43,.e 44 36 0,.e 45 36 1,.e 46 36 2,.op 12 (.alloc [.nils 1,.nils 2,.i 0,.F,.nils 7,.i 0,.nils 3,.i 0,.i 0,.i 0]),.s 100001 10 12 44,.m 13 45,.m 14 46]
 (.q [.L 47 10 5,.c 48 10 [47],.op 15 (.alloc [.nils 1,.nils 2,.i 0,.F,.nils 7,.i 0,.nils 3,.i 0,.i 0,.i 0]),.s 100002 10 15 48]
 (.q [.L 50 10 15,.m 51 1,.m 52 2,.m 53 3,.m 54 4,.c 55 23 [50,51,52,53,54],.m 49 55,.e 56 49 0,.e 57 49 1,.e 58 49 2,.op 16 (.alloc [.nils 1,.nils 2,.i 0,.F,.nils 7,.i 0,.nils 3,.i 0,.i 0,.i 0]),.s 100003 10 16 56,.m 17 57,.m 18 58]
 (.seq (.q [.L 59 10 16,.L 60 10 12,.c 61 13 [59,60],.N 62 61,.m 63 62,.z 63 (.m 64 17),.z 63 (.m 65 13),.z 63 (.b 66 .neq 64 65),.r 67 63 66,.m 68 67,.z 68 (.m 69 18),.z 68 (.m 70 14),.z 68 (.op 71 (.beq true (.t 69) (.t 70))),.r 72 68 71]
 (.c 72 (.q [.F 10]
 .ret)))
 (.seq (.seq (.draw [.L 73 10 15,.L 74 10 5,.c 75 10 [74],.c 76 13 [73,75],.N 77 76] [[],[],[1],[0,2,2],[3]])
 (.c 77 (.q [.F 10]
 .ret)))
 (.norm [1,2,3,4,5,12,13,14,15,16,17,18] (x_l_FnExactNodePut_1))))))))))))⟩
attribute [go_sem] eq_self bne_self_eq_false Bool.xor_self marks_length marks_take take_map NodeV.mark_S_D_Secs NodeV.take_S_D_Secs NodeV.mark_S_D_Cache NodeV.take_S_D_Cache NodeV.mark_S_T_Rows NodeV.take_S_T_Rows NodeV.mark_S_T_Marks NodeV.take_S_T_Marks
theorem r_l_FnExactNodePut {Te:TE} (c_l_szNode:C_l_szNode Te) (c_l_toNode:C_l_toNode Te) (c_s_NodePut:C_s_NodePut Te) (c_i_NodePut:C_i_NodePut Te) (c_l_eqNode:C_l_eqNode Te) (c_l_markNode:C_l_markNode Te) (c_l_heldNode:C_l_heldNode Te):C_l_FnExactNodePut (RF Te x_l_FnExactNodePut):=by
 intro aN aWho aSeq aKey aS h_aN h_aKey h_aS
 refine run0 ?_
 simp -implicitDefEqProofs (maxSteps:=1000000) only [x_l_FnExactNodePut,go_sem]
 refine fun q0=>?_
 have n_aKey:aKey.size≤1048576:=by simp only [decide_eq_false_iff_not] at q0; omega
 refine fun q1=>?_
 have n_aS:aS.size≤1048576:=by simp only [decide_eq_false_iff_not] at q1; omega
 refine .of (c_l_szNode aN (1048576) h_aN (by omega)) ?_
 simp -implicitDefEqProofs (maxSteps:=1000000) only [go_sem]
 refine fun q2=>?_
 replace q2:0≤(szNode aN (1048576)):=by simpa using q2
 have cb_aN:(0:Int)≤(1048576)∧(1048576)≤(1048576:Int):=by omega
 have n_aN:aN.In (1048576):=szNode_in (n:=1048576) cb_aN.1 cb_aN.2 q2
 have b_aN:0≤(szNode aN (1048576))∧(szNode aN (1048576))≤1048576:=⟨q2,Int.le_trans (szNode_sane aN _ cb_aN.1) cb_aN.2⟩
 refine C0 (c_l_toNode aN (n_aN.len (by decide))) ?_
 have lg:(aN.putIn aWho aSeq aKey aS).1.Len:=(put_node_in (n_aN.mono (by decide))).len (by decide)
 refine C0 (c_s_NodePut aN aWho aSeq aKey aS (n_aN.mono (by decide)) (Nat.le_trans n_aKey (by decide)) (Nat.le_trans n_aS (by decide))) ?_
 refine C0 (c_l_toNode aN (n_aN.len (by decide))) ?_
 refine C0 (c_i_NodePut aN aWho aSeq aKey aS (n_aN.mono (by decide)) (Nat.le_trans n_aKey (by decide)) (Nat.le_trans n_aS (by decide))) ?_
 refine C0 (c_l_eqNode ((aN.putIn aWho aSeq aKey aS).1) ((aN.putIn aWho aSeq aKey aS).1) lg) ?_
 refine C0 (c_l_toNode aN (n_aN.len (by decide))) ?_
 refine C0 (c_l_eqNode (aN) (aN) (n_aN.len (by decide))) ?_
 refine G1 (x_l_FnExactNodePut_1.eq_1) ?_
 refine C0 (c_l_markNode (aN) 1 (n_aN.len (by decide)) (by omega)) ?_
 repeat (refine back_bif (by rfl) ?_; try simp -implicitDefEqProofs (maxSteps:=1000000) only [go_sem])
 have f_k:decide (((aN).far 1) < 0)=false:=decide_eq_false (by have:=NodeV.far_le (n_aN.len (by decide)) 1; omega)
 refine G1 f_k ?_
 refine C0 (c_l_eqNode ((aN.putIn aWho aSeq aKey aS).1) ((aN.putIn aWho aSeq aKey aS).1) lg) ?_
 refine C0 (c_l_markNode ((aN.putIn aWho aSeq aKey aS).1) 1 lg (by have:=NodeV.far_le (n_aN.len (by decide)) 1; omega)) ?_
 repeat (refine back_bif (by rfl) ?_; try simp -implicitDefEqProofs (maxSteps:=1000000) only [go_sem])
 refine C0 (c_l_heldNode ((aN.putIn aWho aSeq aKey aS).1) 1 lg (by have:=NodeV.far_le (n_aN.len (by decide)) 1; have:=NodeV.far_le lg 1; omega)) ?_
 have f_q:decide ((((aN.putIn aWho aSeq aKey aS).1).far 1) < 0)=false:=decide_eq_false (by have:=NodeV.far_le (n_aN.len (by decide)) 1; have:=NodeV.far_le lg 1; have:=NodeV.far_le lg 1; omega)
 refine G1 f_q ?_
 refine C0 (c_l_toNode aN (n_aN.len (by decide))) ?_
 refine C0 (c_i_NodePut aN aWho aSeq aKey aS (n_aN.mono (by decide)) (Nat.le_trans n_aKey (by decide)) (Nat.le_trans n_aS (by decide))) ?_
 refine C0 (c_l_eqNode ((aN.putIn aWho aSeq aKey aS).1) ((aN.putIn aWho aSeq aKey aS).1) lg) ?_
 refine C0 (c_l_heldNode ((aN.putIn aWho aSeq aKey aS).1) 1 lg (by have:=NodeV.far_le (n_aN.len (by decide)) 1; have:=NodeV.far_le lg 1; have:=NodeV.far_le lg 1; omega)) ?_
 exact F1 f_q
end Go.X

