/- Texts: CW_NodeDel. -/
import Derived.Test.YtlfciaccddhhoaaGreatDoorC04
set_option linter.unusedVariables false
set_option linter.unusedSimpArgs false
namespace Go.X
set_option maxRecDepth 100000
set_option maxHeartbeats 8000000
def x_l_FnExactNodeDel_1:XCode:=.q [.i 17 1]
 (.q [.L 71 10 13,.m 72 17,.op 73 (.io 15 (.t 71) [(.t 72)]),.m 17 73]
 (.seq (.q [.m 74 17,.B 75 .lss 74 0,.m 76 75,.z 76 (.L 77 10 14),.z 76 (.L 78 10 10),.z 76 (.c 79 13 [77,78]),.z 76 (.N 80 79),.r 81 76 80,.m 82 81,.z 82 (.m 83 15),.z 82 (.m 84 11),.z 82 (.b 85 .neq 83 84),.r 86 82 85,.m 87 86,.z 87 (.m 88 16),.z 87 (.m 89 12),.z 87 (.op 90 (.beq true (.t 88) (.t 89))),.r 91 87 90]
 (.c 91 (.q [.F 8]
 .ret)))
 (.q [.i 18 1]
 (.q [.L 92 10 14,.m 93 18,.op 94 (.io 15 (.t 92) [(.t 93)]),.m 18 94]
 (.q [.i 19 1]
 (.q [.L 95 10 14,.m 96 19,.c 97 17 [95,96],.m 19 97]
 (.seq (.q [.m 98 19,.B 99 .lss 98 0]
 (.c 99 (.q [.F 8]
 .ret)))
 (.seq (.q [.m 100 19,.m 101 18,.b 102 .neq 100 101]
 (.c 102 (.q [.F 8]
 .ret)))
 (.q [.L 104 10 4,.c 105 10 [104],.m 106 1,.m 107 2,.m 108 3,.c 109 21 [105,106,107,108],.m 103 109,.e 110 103 0,.e 111 103 1,.e 112 103 2,.op 20 (.alloc [.nils 1,.nils 2,.i 0,.F,.nils 7,.i 0,.nils 3,.i 0,.i 0,.i 0]),.s 100004 10 20 110,.m 21 111,.m 22 112]
 (.seq (.q [.L 113 10 20,.L 114 10 10,.c 115 13 [113,114],.N 116 115,.m 117 116,.z 117 (.m 118 21),.z 117 (.m 119 11),.z 117 (.b 120 .neq 118 119),.r 121 117 120,.m 122 121,.z 122 (.m 123 22),.z 122 (.m 124 12),.z 122 (.op 125 (.beq true (.t 123) (.t 124))),.r 126 122 125]
 (.c 126 (.q [.F 8]
 .ret)))
 (.q [.i 19 1]
 (.q [.L 127 10 14,.m 128 19,.c 129 17 [127,128],.m 19 129]
 (.seq (.q [.m 130 19,.B 131 .lss 130 0]
 (.c 131 (.q [.F 8]
 .ret)))
 (.seq (.q [.m 132 19,.m 133 18,.b 134 .neq 132 133]
 (.c 134 (.q [.F 8]
 .ret)))
 (.q [.T 8]
 .ret)))))))))))))))
def x_l_FnExactNodeDel:FnX:=⟨135,[.tmp 8],
  .q [.v 4 0,.F 8]
 (.seq (.q [.m 23 3,.op 24 (.slen (.t 23)),.B 25 .gtr 24 1048576]
 (.c 25 (.q [.T 8]
 .ret)))
 (.q [.i 9 1048576]
 (.q [.L 26 10 4,.m 27 9,.c 28 8 [26,27],.m 9 28]
 (.seq (.q [.m 29 9,.B 30 .lss 29 0]
 (.c 30 (.q [.T 8]
 .ret)))
 (.q [.L 32 10 4,.c 33 10 [32],.m 34 1,.m 35 2,.m 36 3,.c 37 20 [33,34,35,36],.m 31 37,.e 38 31 0,.e 39 31 1,.e 40 31 2,.op 10 (.alloc [.nils 1,.nils 2,.i 0,.F,.nils 7,.i 0,.nils 3,.i 0,.i 0,.i 0]),.s 100001 10 10 38,.m 11 39,.m 12 40]
 (.q [.L 41 10 4,.c 42 10 [41],.op 13 (.alloc [.nils 1,.nils 2,.i 0,.F,.nils 7,.i 0,.nils 3,.i 0,.i 0,.i 0]),.s 100002 10 13 42]
 (.q [.L 44 10 13,.m 45 1,.m 46 2,.m 47 3,.c 48 21 [44,45,46,47],.m 43 48,.e 49 43 0,.e 50 43 1,.e 51 43 2,.op 14 (.alloc [.nils 1,.nils 2,.i 0,.F,.nils 7,.i 0,.nils 3,.i 0,.i 0,.i 0]),.s 100003 10 14 49,.m 15 50,.m 16 51]
 (.seq (.q [.L 52 10 14,.L 53 10 10,.c 54 13 [52,53],.N 55 54,.m 56 55,.z 56 (.m 57 15),.z 56 (.m 58 11),.z 56 (.b 59 .neq 57 58),.r 60 56 59,.m 61 60,.z 61 (.m 62 16),.z 61 (.m 63 12),.z 61 (.op 64 (.beq true (.t 62) (.t 63))),.r 65 61 64]
 (.c 65 (.q [.F 8]
 .ret)))
 (.seq (.seq (.draw [.L 66 10 13,.L 67 10 4,.c 68 10 [67],.c 69 13 [66,68],.N 70 69] [[],[],[1],[0,2,2],[3]])
 (.c 70 (.q [.F 8]
 .ret)))
 (.norm [1,2,3,4,10,11,12,13,14,15,16] (x_l_FnExactNodeDel_1)))))))))))⟩
attribute [go_sem] eq_self bne_self_eq_false Bool.xor_self marks_length marks_take take_map NodeV.mark_S_D_Secs NodeV.take_S_D_Secs NodeV.mark_S_D_Cache NodeV.take_S_D_Cache NodeV.mark_S_T_Rows NodeV.take_S_T_Rows NodeV.mark_S_T_Marks NodeV.take_S_T_Marks
theorem r_l_FnExactNodeDel {Te:TE} (c_l_szNode:C_l_szNode Te) (c_l_toNode:C_l_toNode Te) (c_s_NodeDel:C_s_NodeDel Te) (c_i_NodeDel:C_i_NodeDel Te) (c_l_eqNode:C_l_eqNode Te) (c_l_markNode:C_l_markNode Te) (c_l_heldNode:C_l_heldNode Te):C_l_FnExactNodeDel (RF Te x_l_FnExactNodeDel):=by
 intro aN aWho aSeq aKey h_aN h_aKey
 refine run0 ?_
 simp -implicitDefEqProofs (maxSteps:=1000000) only [x_l_FnExactNodeDel,go_sem]
 refine fun q0=>?_
 have n_aKey:aKey.size≤1048576:=by simp only [decide_eq_false_iff_not] at q0; omega
 refine .of (c_l_szNode aN (1048576) h_aN (by omega)) ?_
 simp -implicitDefEqProofs (maxSteps:=1000000) only [go_sem]
 refine fun q1=>?_
 replace q1:0≤(szNode aN (1048576)):=by simpa using q1
 have cb_aN:(0:Int)≤(1048576)∧(1048576)≤(1048576:Int):=by omega
 have n_aN:aN.In (1048576):=szNode_in (n:=1048576) cb_aN.1 cb_aN.2 q1
 have b_aN:0≤(szNode aN (1048576))∧(szNode aN (1048576))≤1048576:=⟨q1,Int.le_trans (szNode_sane aN _ cb_aN.1) cb_aN.2⟩
 refine C0 (c_l_toNode aN (n_aN.len (by decide))) ?_
 have lg:(aN.del aWho aSeq aKey).1.Len:=(del_in (n_aN.mono (by decide))).len (by decide)
 refine C0 (c_s_NodeDel aN aWho aSeq aKey (n_aN.mono (by decide)) (Nat.le_trans n_aKey (by decide))) ?_
 refine C0 (c_l_toNode aN (n_aN.len (by decide))) ?_
 refine C0 (c_i_NodeDel aN aWho aSeq aKey (n_aN.mono (by decide)) (Nat.le_trans n_aKey (by decide))) ?_
 refine C0 (c_l_eqNode ((aN.del aWho aSeq aKey).1) ((aN.del aWho aSeq aKey).1) lg) ?_
 refine C0 (c_l_toNode aN (n_aN.len (by decide))) ?_
 refine C0 (c_l_eqNode (aN) (aN) (n_aN.len (by decide))) ?_
 refine G1 (x_l_FnExactNodeDel_1.eq_1) ?_
 refine C0 (c_l_markNode (aN) 1 (n_aN.len (by decide)) (by omega)) ?_
 repeat (refine back_bif (by rfl) ?_; try simp -implicitDefEqProofs (maxSteps:=1000000) only [go_sem])
 have f_k:decide (((aN).far 1) < 0)=false:=decide_eq_false (by have:=NodeV.far_le (n_aN.len (by decide)) 1; omega)
 refine G1 f_k ?_
 refine C0 (c_l_eqNode ((aN.del aWho aSeq aKey).1) ((aN.del aWho aSeq aKey).1) lg) ?_
 refine C0 (c_l_markNode ((aN.del aWho aSeq aKey).1) 1 lg (by have:=NodeV.far_le (n_aN.len (by decide)) 1; omega)) ?_
 repeat (refine back_bif (by rfl) ?_; try simp -implicitDefEqProofs (maxSteps:=1000000) only [go_sem])
 refine C0 (c_l_heldNode ((aN.del aWho aSeq aKey).1) 1 lg (by have:=NodeV.far_le (n_aN.len (by decide)) 1; have:=NodeV.far_le lg 1; omega)) ?_
 have f_q:decide ((((aN.del aWho aSeq aKey).1).far 1) < 0)=false:=decide_eq_false (by have:=NodeV.far_le (n_aN.len (by decide)) 1; have:=NodeV.far_le lg 1; have:=NodeV.far_le lg 1; omega)
 refine G1 f_q ?_
 refine C0 (c_l_toNode aN (n_aN.len (by decide))) ?_
 refine C0 (c_i_NodeDel aN aWho aSeq aKey (n_aN.mono (by decide)) (Nat.le_trans n_aKey (by decide))) ?_
 refine C0 (c_l_eqNode ((aN.del aWho aSeq aKey).1) ((aN.del aWho aSeq aKey).1) lg) ?_
 refine C0 (c_l_heldNode ((aN.del aWho aSeq aKey).1) 1 lg (by have:=NodeV.far_le (n_aN.len (by decide)) 1; have:=NodeV.far_le lg 1; have:=NodeV.far_le lg 1; omega)) ?_
 exact F1 f_q
end Go.X

