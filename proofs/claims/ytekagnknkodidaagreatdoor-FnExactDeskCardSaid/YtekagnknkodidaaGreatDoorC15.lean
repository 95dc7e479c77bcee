/- Texts: CW_Desk. -/
import Derived.Test.YtekagnknkodidaaGreatDoorC04
set_option linter.unusedVariables false
set_option linter.unusedSimpArgs false
namespace Go.X
set_option maxRecDepth 100000
set_option maxHeartbeats 8000000
def x_l_FnExactDesk_1:XCode:=.q [.i 13 1]
 (.q [.L 69 10 9,.m 70 13,.op 71 (.io 13 (.t 69) [(.t 70)]),.m 13 71]
 (.seq (.q [.m 72 13,.B 73 .lss 72 0,.m 74 73,.z 74 (.L 75 10 10),.z 74 (.L 76 10 6),.z 74 (.c 77 10 [75,76]),.z 74 (.N 78 77),.r 79 74 78,.m 80 79,.z 80 (.m 81 11),.z 80 (.m 82 7),.z 80 (.c 83 11 [81,82]),.z 80 (.N 84 83),.r 85 80 84,.m 86 85,.z 86 (.m 87 12),.z 86 (.m 88 8),.z 86 (.c 89 12 [87,88]),.z 86 (.N 90 89),.r 91 86 90]
 (.c 91 (.q [.F 4]
 .ret)))
 (.q [.i 14 1]
 (.q [.L 92 10 10,.m 93 14,.op 94 (.io 13 (.t 92) [(.t 93)]),.m 14 94]
 (.q [.m 95 11,.m 96 14,.op 97 (.io 14 (.t 95) [(.t 96)]),.m 14 97]
 (.q [.m 98 12,.m 99 14,.op 100 (.io 15 (.t 98) [(.t 99)]),.m 14 100]
 (.q [.i 15 1]
 (.q [.L 101 10 10,.m 102 15,.c 103 16 [101,102],.m 15 103]
 (.seq (.q [.m 104 15,.B 105 .lss 104 0]
 (.c 105 (.q [.F 4]
 .ret)))
 (.q [.m 106 11,.m 107 15,.c 108 17 [106,107],.m 15 108]
 (.seq (.q [.m 109 15,.B 110 .lss 109 0]
 (.c 110 (.q [.F 4]
 .ret)))
 (.q [.m 111 12,.m 112 15,.c 113 18 [111,112],.m 15 113]
 (.seq (.q [.m 114 15,.B 115 .lss 114 0]
 (.c 115 (.q [.F 4]
 .ret)))
 (.seq (.q [.m 116 15,.m 117 14,.b 118 .neq 116 117]
 (.c 118 (.q [.F 4]
 .ret)))
 (.seq (.draw [.L 120 10 2,.c 121 7 [120],.L 122 8 3,.c 123 8 [122],.c 124 9 [121,123],.m 119 124,.e 125 119 0,.e 126 119 1,.e 127 119 2,.op 16 (.alloc [.nils 1,.nils 2,.i 0,.F,.nils 7,.i 0,.nils 3,.i 0,.i 0,.i 0]),.s 100004 10 16 125,.m 17 126,.m 18 127] [[],[0],[],[2,1],[1,3,3],[4],[5],[5],[5],[],[9,6,4,0,1,2,3,4,5,6,9],[7,10,0,1,2,3,4,5,6,7,9,10],[8,11,0,1,2,3,4,5,6,7,8,9,10,11]])
 (.seq (.q [.L 128 10 16,.L 129 10 6,.c 130 10 [128,129],.N 131 130,.m 132 131,.z 132 (.m 133 17),.z 132 (.m 134 7),.z 132 (.c 135 11 [133,134]),.z 132 (.N 136 135),.r 137 132 136,.m 138 137,.z 138 (.m 139 18),.z 138 (.m 140 8),.z 138 (.c 141 12 [139,140]),.z 138 (.N 142 141),.r 143 138 142]
 (.c 143 (.q [.F 4]
 .ret)))
 (.q [.i 15 1]
 (.q [.L 144 10 10,.m 145 15,.c 146 16 [144,145],.m 15 146]
 (.seq (.q [.m 147 15,.B 148 .lss 147 0]
 (.c 148 (.q [.F 4]
 .ret)))
 (.q [.m 149 11,.m 150 15,.c 151 17 [149,150],.m 15 151]
 (.seq (.q [.m 152 15,.B 153 .lss 152 0]
 (.c 153 (.q [.F 4]
 .ret)))
 (.q [.m 154 12,.m 155 15,.c 156 18 [154,155],.m 15 156]
 (.seq (.q [.m 157 15,.B 158 .lss 157 0]
 (.c 158 (.q [.F 4]
 .ret)))
 (.seq (.q [.m 159 15,.m 160 14,.b 161 .neq 159 160]
 (.c 161 (.q [.F 4]
 .ret)))
 (.q [.T 4]
 .ret)))))))))))))))))))))))))
def x_l_FnExactDesk:FnX:=⟨162,[.tmp 4],
  .q [.v 2 0,.v 3 1,.F 4]
 (.q [.i 5 1048576]
 (.q [.L 19 10 2,.m 20 5,.c 21 4 [19,20],.m 5 21]
 (.seq (.q [.m 22 5,.B 23 .lss 22 0]
 (.c 23 (.q [.T 4]
 .ret)))
 (.q [.L 24 8 3,.m 25 5,.c 26 5 [24,25],.m 5 26]
 (.seq (.q [.m 27 5,.B 28 .lss 27 0]
 (.c 28 (.q [.T 4]
 .ret)))
 (.seq (.draw [.L 30 10 2,.c 31 7 [30],.L 32 8 3,.c 33 8 [32],.c 34 6 [31,33],.m 29 34,.e 35 29 0,.e 36 29 1,.e 37 29 2,.op 6 (.alloc [.nils 1,.nils 2,.i 0,.F,.nils 7,.i 0,.nils 3,.i 0,.i 0,.i 0]),.s 100001 10 6 35,.m 7 36,.m 8 37] [[],[0],[],[2,1],[1,3,3],[4],[5],[5],[5],[],[9,6,4,0,1,2,3,4,5,6,9],[7,10,0,1,2,3,4,5,6,7,9,10],[8,11,0,1,2,3,4,5,6,7,8,9,10,11]])
 (.q [.L 38 10 2,.c 39 7 [38],.op 9 (.alloc [.nils 1,.nils 2,.i 0,.F,.nils 7,.i 0,.nils 3,.i 0,.i 0,.i 0]),.s 100002 10 9 39]
 (.seq (.draw [.L 41 10 9,.L 42 8 3,.c 43 8 [42],.c 44 9 [41,43],.m 40 44,.e 45 40 0,.e 46 40 1,.e 47 40 2,.op 10 (.alloc [.nils 1,.nils 2,.i 0,.F,.nils 7,.i 0,.nils 3,.i 0,.i 0,.i 0]),.s 100003 10 10 45,.m 11 46,.m 12 47] [[],[],[1],[0,2,2],[3],[4],[4],[4],[],[8,5,3,0,1,2,3,4,5,8],[6,9,0,1,2,3,4,5,6,8,9],[7,10,0,1,2,3,4,5,6,7,8,9,10]])
 (.seq (.q [.L 48 10 10,.L 49 10 6,.c 50 10 [48,49],.N 51 50,.m 52 51,.z 52 (.m 53 11),.z 52 (.m 54 7),.z 52 (.c 55 11 [53,54]),.z 52 (.N 56 55),.r 57 52 56,.m 58 57,.z 58 (.m 59 12),.z 58 (.m 60 8),.z 58 (.c 61 12 [59,60]),.z 58 (.N 62 61),.r 63 58 62]
 (.c 63 (.q [.F 4]
 .ret)))
 (.seq (.seq (.draw [.L 64 10 9,.L 65 10 2,.c 66 7 [65],.c 67 10 [64,66],.N 68 67] [[],[],[1],[0,2,2],[3]])
 (.c 68 (.q [.F 4]
 .ret)))
 (.norm [2,3,6,7,8,9,10,11,12] (x_l_FnExactDesk_1))))))))))))⟩
attribute [go_sem] eq_self bne_self_eq_false Bool.xor_self marks_length marks_take take_map NodeV.mark_S_D_Secs NodeV.take_S_D_Secs NodeV.mark_S_D_Cache NodeV.take_S_D_Cache NodeV.mark_S_T_Rows NodeV.take_S_T_Rows NodeV.mark_S_T_Marks NodeV.take_S_T_Marks
theorem r_l_FnExactDesk {Te:TE} (c_l_szNode:C_l_szNode Te) (c_l_szMsg:C_l_szMsg Te) (c_l_toNode:C_l_toNode Te) (c_l_toMsg:C_l_toMsg Te) (c_s_Desk:C_s_Desk Te) (c_i_Desk:C_i_Desk Te) (c_l_eqNode:C_l_eqNode Te) (c_l_eqMsgS:C_l_eqMsgS Te) (c_l_eqActS:C_l_eqActS Te) (c_l_markNode:C_l_markNode Te) (c_l_markMsgS:C_l_markMsgS Te) (c_l_markActS:C_l_markActS Te) (c_l_heldNode:C_l_heldNode Te) (c_l_heldMsgS:C_l_heldMsgS Te) (c_l_heldActS:C_l_heldActS Te):C_l_FnExactDesk (RF Te x_l_FnExactDesk):=by
 intro aN aM h_aN h_aM
 refine run0 ?_
 simp -implicitDefEqProofs (maxSteps:=1000000) only [x_l_FnExactDesk,go_sem]
 refine .of (c_l_szNode aN (1048576) h_aN (by omega)) ?_
 simp -implicitDefEqProofs (maxSteps:=1000000) only [go_sem]
 refine fun q0=>?_
 replace q0:0≤(szNode aN (1048576)):=by simpa using q0
 have cb_aN:(0:Int)≤(1048576)∧(1048576)≤(1048576:Int):=by omega
 have n_aN:aN.In (1048576):=szNode_in (n:=1048576) cb_aN.1 cb_aN.2 q0
 have b_aN:0≤(szNode aN (1048576))∧(szNode aN (1048576))≤1048576:=⟨q0,Int.le_trans (szNode_sane aN _ cb_aN.1) cb_aN.2⟩
 refine .of (c_l_szMsg aM ((szNode aN (1048576))) h_aM ⟨by omega,by omega⟩) ?_
 simp -implicitDefEqProofs (maxSteps:=1000000) only [go_sem]
 refine fun q1=>?_
 replace q1:0≤(szMsg aM ((szNode aN (1048576)))):=by simpa using q1
 have cb_aM:(0:Int)≤((szNode aN (1048576)))∧((szNode aN (1048576)))≤(1048576:Int):=b_aN
 have n_aM:aM.In (1048576):=szMsg_in (n:=1048576) cb_aM.1 cb_aM.2 q1
 have b_aM:0≤(szMsg aM ((szNode aN (1048576))))∧(szMsg aM ((szNode aN (1048576))))≤1048576:=⟨q1,Int.le_trans (szMsg_sane aM _ cb_aM.1) cb_aM.2⟩
 refine C0 (c_l_toNode aN (n_aN.len (by decide))) ?_
 refine C0 (c_l_toMsg aM) ?_
 have lg:(aN.desk aM).1.Len:=(desk_in (n_aN.mono (by decide))).len (by decide)
 have lm:(aN.desk aM).2.1.length≤2 ^ 31:=desk_msgs aN aM
 have la:(aN.desk aM).2.2.length≤2 ^ 31:=desk_acts aN aM
 refine C0 (c_s_Desk aN aM (n_aN.mono (by decide)) (n_aM.mono (by decide))) ?_
 refine C0 (c_l_toNode aN (n_aN.len (by decide))) ?_
 refine C0 (c_l_toMsg aM) ?_
 refine C0 (c_i_Desk aN aM (n_aN.mono (by decide)) (n_aM.mono (by decide))) ?_
 refine C0 (c_l_eqNode ((aN.desk aM).1) ((aN.desk aM).1) lg) ?_
 refine C0 (c_l_eqMsgS ((aN.desk aM).2.1) ((aN.desk aM).2.1) lm) ?_
 refine C0 (c_l_eqActS ((aN.desk aM).2.2) ((aN.desk aM).2.2) la) ?_
 refine C0 (c_l_toNode aN (n_aN.len (by decide))) ?_
 refine C0 (c_l_eqNode (aN) (aN) (n_aN.len (by decide))) ?_
 refine G1 (x_l_FnExactDesk_1.eq_1) ?_
 refine C0 (c_l_markNode (aN) 1 (n_aN.len (by decide)) (by omega)) ?_
 repeat (refine back_bif (by rfl) ?_; try simp -implicitDefEqProofs (maxSteps:=1000000) only [go_sem])
 have f_k:decide (((aN).far 1) < 0)=false:=decide_eq_false (by have:=NodeV.far_le (n_aN.len (by decide)) 1; omega)
 refine G1 f_k ?_
 refine C0 (c_l_eqNode ((aN.desk aM).1) ((aN.desk aM).1) lg) ?_
 refine C0 (c_l_eqMsgS ((aN.desk aM).2.1) ((aN.desk aM).2.1) lm) ?_
 refine C0 (c_l_eqActS ((aN.desk aM).2.2) ((aN.desk aM).2.2) la) ?_
 refine C0 (c_l_markNode ((aN.desk aM).1) 1 lg (by have:=NodeV.far_le (n_aN.len (by decide)) 1; omega)) ?_
 repeat (refine back_bif (by rfl) ?_; try simp -implicitDefEqProofs (maxSteps:=1000000) only [go_sem])
 refine C0 (c_l_markMsgS ((aN.desk aM).2.1) ((((aN.desk aM).1).far 1)) lm (by have:=NodeV.far_le (n_aN.len (by decide)) 1; have:=NodeV.far_le lg 1; omega)) ?_
 refine C0 (c_l_markActS ((aN.desk aM).2.2) (((((((aN.desk aM).1).far 1)):Int) + (8 * ((aN.desk aM).2.1).length:Nat))) la (by have:=NodeV.far_le (n_aN.len (by decide)) 1; have:=NodeV.far_le lg 1; omega)) ?_
 refine C0 (c_l_heldNode ((aN.desk aM).1) 1 lg (by have:=NodeV.far_le (n_aN.len (by decide)) 1; have:=NodeV.far_le lg 1; omega)) ?_
 have f_q:decide ((((aN.desk aM).1).far 1) < 0)=false:=decide_eq_false (by have:=NodeV.far_le (n_aN.len (by decide)) 1; have:=NodeV.far_le lg 1; have:=NodeV.far_le lg 1; omega)
 refine G1 f_q ?_
 refine C0 (c_l_heldMsgS ((aN.desk aM).2.1).length ((((aN.desk aM).1).far 1)) lm (by have:=NodeV.far_le (n_aN.len (by decide)) 1; have:=NodeV.far_le lg 1; have:=NodeV.far_le lg 1; omega)) ?_
 have f_q1:decide (((((((aN.desk aM).1).far 1)):Int) + (8 * ((aN.desk aM).2.1).length:Nat)) < 0)=false:=decide_eq_false (by have:=NodeV.far_le (n_aN.len (by decide)) 1; have:=NodeV.far_le lg 1; have:=NodeV.far_le lg 1; omega)
 try simp -implicitDefEqProofs (maxSteps:=1000000) only [go_sem,f_q1]
 repeat refine ⟨sc,?_⟩
 try exact sf
 refine C0 (c_l_heldActS ((aN.desk aM).2.2).length (((((((aN.desk aM).1).far 1)):Int) + (8 * ((aN.desk aM).2.1).length:Nat))) la (by have:=NodeV.far_le (n_aN.len (by decide)) 1; have:=NodeV.far_le lg 1; have:=NodeV.far_le lg 1; omega)) ?_
 have f_q2:decide ((((((((((aN.desk aM).1).far 1)):Int) + (8 * ((aN.desk aM).2.1).length:Nat))):Int) + (6 * ((aN.desk aM).2.2).length:Nat)) < 0)=false:=decide_eq_false (by have:=NodeV.far_le (n_aN.len (by decide)) 1; have:=NodeV.far_le lg 1; have:=NodeV.far_le lg 1; omega)
 try simp -implicitDefEqProofs (maxSteps:=1000000) only [go_sem,f_q2]
 repeat refine ⟨sc,?_⟩
 try exact sf
 refine C0 (c_l_toNode aN (n_aN.len (by decide))) ?_
 refine C0 (c_l_toMsg aM) ?_
 refine C0 (c_i_Desk aN aM (n_aN.mono (by decide)) (n_aM.mono (by decide))) ?_
 refine C0 (c_l_eqNode ((aN.desk aM).1) ((aN.desk aM).1) lg) ?_
 refine C0 (c_l_eqMsgS ((aN.desk aM).2.1) ((aN.desk aM).2.1) lm) ?_
 refine C0 (c_l_eqActS ((aN.desk aM).2.2) ((aN.desk aM).2.2) la) ?_
 refine C0 (c_l_heldNode ((aN.desk aM).1) 1 lg (by have:=NodeV.far_le (n_aN.len (by decide)) 1; have:=NodeV.far_le lg 1; have:=NodeV.far_le lg 1; omega)) ?_
 refine G1 f_q ?_
 refine C0 (c_l_heldMsgS ((aN.desk aM).2.1).length ((((aN.desk aM).1).far 1)) lm (by have:=NodeV.far_le (n_aN.len (by decide)) 1; have:=NodeV.far_le lg 1; have:=NodeV.far_le lg 1; have:=NodeV.far_le lg 1; omega)) ?_
 try simp -implicitDefEqProofs (maxSteps:=1000000) only [go_sem,f_q1]
 repeat refine ⟨sc,?_⟩
 try exact sf
 refine C0 (c_l_heldActS ((aN.desk aM).2.2).length (((((((aN.desk aM).1).far 1)):Int) + (8 * ((aN.desk aM).2.1).length:Nat))) la (by have:=NodeV.far_le (n_aN.len (by decide)) 1; have:=NodeV.far_le lg 1; have:=NodeV.far_le lg 1; have:=NodeV.far_le lg 1; omega)) ?_
 try simp -implicitDefEqProofs (maxSteps:=1000000) only [go_sem,f_q2]
 repeat refine ⟨sc,?_⟩
 try exact sf
end Go.X

