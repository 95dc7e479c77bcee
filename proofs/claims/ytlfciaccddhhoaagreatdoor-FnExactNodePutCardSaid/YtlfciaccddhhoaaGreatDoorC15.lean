/- Texts: CW_NodeLoad. -/
import Derived.Test.YtlfciaccddhhoaaGreatDoorC04
set_option linter.unusedVariables false
set_option linter.unusedSimpArgs false
namespace Go.X
set_option maxRecDepth 100000
set_option maxHeartbeats 8000000
def x_l_FnExactNodeLoad_1:XCode:=.q [.i 14 1]
 (.q [.L 69 10 10,.m 70 14,.op 71 (.io 15 (.t 69) [(.t 70)]),.m 14 71]
 (.q [.m 72 11,.m 73 14,.op 74 (.io 16 (.t 72) [(.t 73)]),.m 14 74]
 (.seq (.q [.m 75 14,.B 76 .lss 75 0,.m 77 76,.z 77 (.L 78 10 12),.z 77 (.L 79 10 8),.z 77 (.c 80 13 [78,79]),.z 77 (.N 81 80),.r 82 77 81,.m 83 82,.z 83 (.m 84 13),.z 83 (.m 85 9),.z 83 (.b 86 .neq 84 85),.r 87 83 86]
 (.c 87 (.q [.F 6]
 .ret)))
 (.q [.i 15 1]
 (.q [.L 88 10 12,.m 89 15,.op 90 (.io 15 (.t 88) [(.t 89)]),.m 15 90]
 (.q [.i 16 1]
 (.q [.L 91 10 12,.m 92 16,.c 93 17 [91,92],.m 16 93]
 (.seq (.q [.m 94 16,.B 95 .lss 94 0]
 (.c 95 (.q [.F 6]
 .ret)))
 (.seq (.q [.m 96 16,.m 97 15,.b 98 .neq 96 97]
 (.c 98 (.q [.F 6]
 .ret)))
 (.q [.L 100 10 3,.c 101 10 [100],.m 102 1,.m 103 2,.c 104 11 [103],.c 105 12 [101,102,104],.m 99 105,.e 106 99 0,.e 107 99 1,.op 17 (.alloc [.nils 1,.nils 2,.i 0,.F,.nils 7,.i 0,.nils 3,.i 0,.i 0,.i 0]),.s 100004 10 17 106,.m 18 107]
 (.seq (.q [.L 108 10 17,.L 109 10 8,.c 110 13 [108,109],.N 111 110,.m 112 111,.z 112 (.m 113 18),.z 112 (.m 114 9),.z 112 (.b 115 .neq 113 114),.r 116 112 115]
 (.c 116 (.q [.F 6]
 .ret)))
 (.q [.i 16 1]
 (.q [.L 117 10 12,.m 118 16,.c 119 17 [117,118],.m 16 119]
 (.seq (.q [.m 120 16,.B 121 .lss 120 0]
 (.c 121 (.q [.F 6]
 .ret)))
 (.seq (.q [.m 122 16,.m 123 15,.b 124 .neq 122 123]
 (.c 124 (.q [.F 6]
 .ret)))
 (.q [.T 6]
 .ret))))))))))))))))
def x_l_FnExactNodeLoad:FnX:=⟨125,[.tmp 6],
  .q [.v 3 0,.F 6]
 (.seq (.q [.m 19 1,.op 20 (.slen (.t 19)),.B 21 .gtr 20 1048576]
 (.c 21 (.q [.T 6]
 .ret)))
 (.seq (.q [.m 22 2,.n 23 22,.B 24 .gtr 23 1048576]
 (.c 24 (.q [.T 6]
 .ret)))
 (.q [.i 7 1048576]
 (.q [.L 25 10 3,.m 26 7,.c 27 8 [25,26],.m 7 27]
 (.seq (.q [.m 28 7,.B 29 .lss 28 0]
 (.c 29 (.q [.T 6]
 .ret)))
 (.q [.L 31 10 3,.c 32 10 [31],.m 33 1,.m 34 2,.c 35 11 [34],.c 36 9 [32,33,35],.m 30 36,.e 37 30 0,.e 38 30 1,.op 8 (.alloc [.nils 1,.nils 2,.i 0,.F,.nils 7,.i 0,.nils 3,.i 0,.i 0,.i 0]),.s 100001 10 8 37,.m 9 38]
 (.q [.L 39 10 3,.c 40 10 [39],.op 10 (.alloc [.nils 1,.nils 2,.i 0,.F,.nils 7,.i 0,.nils 3,.i 0,.i 0,.i 0]),.s 100002 10 10 40]
 (.q [.m 41 2,.c 42 11 [41],.m 11 42]
 (.q [.L 44 10 10,.m 45 1,.m 46 11,.c 47 12 [44,45,46],.m 43 47,.e 48 43 0,.e 49 43 1,.op 12 (.alloc [.nils 1,.nils 2,.i 0,.F,.nils 7,.i 0,.nils 3,.i 0,.i 0,.i 0]),.s 100003 10 12 48,.m 13 49]
 (.seq (.q [.L 50 10 12,.L 51 10 8,.c 52 13 [50,51],.N 53 52,.m 54 53,.z 54 (.m 55 13),.z 54 (.m 56 9),.z 54 (.b 57 .neq 55 56),.r 58 54 57]
 (.c 58 (.q [.F 6]
 .ret)))
 (.seq (.seq (.draw [.L 59 10 10,.L 60 10 3,.c 61 10 [60],.c 62 13 [59,61],.N 63 62] [[],[],[1],[0,2,2],[3]])
 (.c 63 (.q [.F 6]
 .ret)))
 (.seq (.q [.m 64 11,.m 65 2,.c 66 11 [65],.c 67 14 [64,66],.N 68 67]
 (.c 68 (.q [.F 6]
 .ret)))
 (.norm [1,2,3,8,9,10,11,12,13] (x_l_FnExactNodeLoad_1))))))))))))))⟩
attribute [go_sem] eq_self bne_self_eq_false Bool.xor_self marks_length marks_take take_map NodeV.mark_S_D_Secs NodeV.take_S_D_Secs NodeV.mark_S_D_Cache NodeV.take_S_D_Cache NodeV.mark_S_T_Rows NodeV.take_S_T_Rows NodeV.mark_S_T_Marks NodeV.take_S_T_Marks
theorem r_l_FnExactNodeLoad {Te:TE} (c_l_szNode:C_l_szNode Te) (c_l_toNode:C_l_toNode Te) (c_l_toByteS:C_l_toByteS Te) (c_s_NodeLoad:C_s_NodeLoad Te) (c_i_NodeLoad:C_i_NodeLoad Te) (c_l_eqNode:C_l_eqNode Te) (c_l_eqByteS:C_l_eqByteS Te) (c_l_markNode:C_l_markNode Te) (c_l_markByteS:C_l_markByteS Te) (c_l_heldNode:C_l_heldNode Te):C_l_FnExactNodeLoad (RF Te x_l_FnExactNodeLoad):=by
 intro aN aKey aB h_aN h_aKey h_aB
 refine run0 ?_
 simp -implicitDefEqProofs (maxSteps:=1000000) only [x_l_FnExactNodeLoad,go_sem]
 refine fun q0=>?_
 have n_aKey:aKey.size≤1048576:=by simp only [decide_eq_false_iff_not] at q0; omega
 refine fun q1=>?_
 have n_aB:aB.length≤1048576:=by simp only [decide_eq_false_iff_not] at q1; omega
 refine .of (c_l_szNode aN (1048576) h_aN (by omega)) ?_
 simp -implicitDefEqProofs (maxSteps:=1000000) only [go_sem]
 refine fun q2=>?_
 replace q2:0≤(szNode aN (1048576)):=by simpa using q2
 have cb_aN:(0:Int)≤(1048576)∧(1048576)≤(1048576:Int):=by omega
 have n_aN:aN.In (1048576):=szNode_in (n:=1048576) cb_aN.1 cb_aN.2 q2
 have b_aN:0≤(szNode aN (1048576))∧(szNode aN (1048576))≤1048576:=⟨q2,Int.le_trans (szNode_sane aN _ cb_aN.1) cb_aN.2⟩
 refine C0 (c_l_toNode aN (n_aN.len (by decide))) ?_
 refine C0 (c_l_toByteS aB (Nat.le_trans n_aB (by decide))) ?_
 have lg:(aN.load aKey aB).1.Len:=(load_in (n_aN.mono (by decide))).len (by decide)
 refine C0 (c_s_NodeLoad aN aKey aB (n_aN.mono (by decide)) (Nat.le_trans n_aKey (by decide)) (Nat.le_trans n_aB (by decide))) ?_
 refine C0 (c_l_toNode aN (n_aN.len (by decide))) ?_
 refine C0 (c_l_toByteS aB (Nat.le_trans n_aB (by decide))) ?_
 refine C0 (c_i_NodeLoad aN aKey aB (n_aN.mono (by decide)) (Nat.le_trans n_aKey (by decide)) (Nat.le_trans n_aB (by decide))) ?_
 refine C0 (c_l_eqNode ((aN.load aKey aB).1) ((aN.load aKey aB).1) lg) ?_
 refine C0 (c_l_toNode aN (n_aN.len (by decide))) ?_
 refine C0 (c_l_eqNode (aN) (aN) (n_aN.len (by decide))) ?_
 refine C0 (c_l_toByteS aB (Nat.le_trans n_aB (by decide))) ?_
 refine C0 (c_l_eqByteS (aB) (aB) (Nat.le_trans n_aB (by decide))) ?_
 refine G1 (x_l_FnExactNodeLoad_1.eq_1) ?_
 refine C0 (c_l_markNode (aN) 1 (n_aN.len (by decide)) (by omega)) ?_
 repeat (refine back_bif (by rfl) ?_; try simp -implicitDefEqProofs (maxSteps:=1000000) only [go_sem])
 have f_k:decide (((aN).far 1) < 0)=false:=decide_eq_false (by have:=NodeV.far_le (n_aN.len (by decide)) 1; omega)
 refine C0 (c_l_markByteS (aB) (((aN).far 1)) (Nat.le_trans n_aB (by decide)) (by have:=NodeV.far_le (n_aN.len (by decide)) 1; omega)) ?_
 have f_k:decide ((((((aN).far 1)):Int) + (1 * (aB).length:Nat)) < 0)=false:=decide_eq_false (by have:=NodeV.far_le (n_aN.len (by decide)) 1; omega)
 refine G1 f_k ?_
 refine C0 (c_l_eqNode ((aN.load aKey aB).1) ((aN.load aKey aB).1) lg) ?_
 refine C0 (c_l_markNode ((aN.load aKey aB).1) 1 lg (by have:=NodeV.far_le (n_aN.len (by decide)) 1; omega)) ?_
 repeat (refine back_bif (by rfl) ?_; try simp -implicitDefEqProofs (maxSteps:=1000000) only [go_sem])
 refine C0 (c_l_heldNode ((aN.load aKey aB).1) 1 lg (by have:=NodeV.far_le (n_aN.len (by decide)) 1; have:=NodeV.far_le lg 1; omega)) ?_
 have f_q:decide ((((aN.load aKey aB).1).far 1) < 0)=false:=decide_eq_false (by have:=NodeV.far_le (n_aN.len (by decide)) 1; have:=NodeV.far_le lg 1; have:=NodeV.far_le lg 1; omega)
 refine G1 f_q ?_
 refine C0 (c_l_toNode aN (n_aN.len (by decide))) ?_
 refine C0 (c_l_toByteS aB (Nat.le_trans n_aB (by decide))) ?_
 refine C0 (c_i_NodeLoad aN aKey aB (n_aN.mono (by decide)) (Nat.le_trans n_aKey (by decide)) (Nat.le_trans n_aB (by decide))) ?_
 refine C0 (c_l_eqNode ((aN.load aKey aB).1) ((aN.load aKey aB).1) lg) ?_
 refine C0 (c_l_heldNode ((aN.load aKey aB).1) 1 lg (by have:=NodeV.far_le (n_aN.len (by decide)) 1; have:=NodeV.far_le lg 1; have:=NodeV.far_le lg 1; omega)) ?_
 exact F1 f_q
end Go.X

