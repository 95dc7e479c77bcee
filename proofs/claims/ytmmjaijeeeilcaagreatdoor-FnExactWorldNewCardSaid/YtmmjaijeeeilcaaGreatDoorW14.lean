/- Texts: CW_Texts. -/
import Derived.Test.YtmmjaijeeeilcaaGreatDoorW04
set_option linter.unusedVariables false
set_option linter.unusedSimpArgs false
namespace Go.X
set_option maxRecDepth 100000
set_option maxHeartbeats 8000000
def x_l_FnExactTexts:FnX:=⟨69,[.tmp 2],
  .q [.v 1 0,.F 2]
 (.q [.i 3 1048576]
 (.q [.L 11 9 1,.m 12 3,.c 13 46 [11,12],.m 3 13]
 (.seq (.q [.m 14 3,.B 15 .lss 14 0]
 (.c 15 (.q [.T 2]
 .ret)))
 (.q [.L 16 9 1,.c 17 48 [16],.c 18 47 [17],.m 4 18]
 (.q [.L 19 9 1,.c 20 48 [19],.op 5 (.alloc [.i 0,.nils 1,.nils 1,.nils 1,.nils 10,.nils 12,.nils 8,.nils 6,.nils 1]),.s 100001 9 5 20]
 (.q [.L 21 9 5,.c 22 49 [21],.m 6 22]
 (.seq (.q [.m 23 6,.m 24 4,.c 25 50 [23,24],.N 26 25]
 (.c 26 (.q [.F 2]
 .ret)))
 (.seq (.seq (.draw [.L 27 9 5,.L 28 9 1,.c 29 48 [28],.c 30 51 [27,29],.N 31 30] [[],[],[1],[0,2,2],[3]])
 (.c 31 (.q [.F 2]
 .ret)))
 (.q [.i 7 1]
 (.q [.L 32 9 5,.m 33 7,.op 34 (.io 52 (.t 32) [(.t 33)]),.m 7 34]
 (.seq (.q [.m 35 7,.B 36 .lss 35 0,.m 37 36,.z 37 (.m 38 6),.z 37 (.m 39 4),.z 37 (.c 40 50 [38,39]),.z 37 (.N 41 40),.r 42 37 41]
 (.c 42 (.q [.F 2]
 .ret)))
 (.q [.i 8 1]
 (.q [.m 43 6,.m 44 8,.op 45 (.io 53 (.t 43) [(.t 44)]),.m 8 45]
 (.q [.i 9 1]
 (.q [.m 46 6,.m 47 9,.c 48 54 [46,47],.m 9 48]
 (.seq (.q [.m 49 9,.B 50 .lss 49 0]
 (.c 50 (.q [.F 2]
 .ret)))
 (.seq (.q [.m 51 9,.m 52 8,.b 53 .neq 51 52]
 (.c 53 (.q [.F 2]
 .ret)))
 (.q [.L 54 9 1,.c 55 48 [54],.c 56 49 [55],.m 10 56]
 (.seq (.q [.m 57 10,.m 58 4,.c 59 50 [57,58],.N 60 59]
 (.c 60 (.q [.F 2]
 .ret)))
 (.q [.i 9 1]
 (.q [.m 61 6,.m 62 9,.c 63 54 [61,62],.m 9 63]
 (.seq (.q [.m 64 9,.B 65 .lss 64 0]
 (.c 65 (.q [.F 2]
 .ret)))
 (.seq (.q [.m 66 9,.m 67 8,.b 68 .neq 66 67]
 (.c 68 (.q [.F 2]
 .ret)))
 (.q [.T 2]
 .ret))))))))))))))))))))))))⟩
attribute [go_sem] eq_self bne_self_eq_false Bool.xor_self marks_length marks_take take_map WorldV.mark_L_Acked WorldV.take_L_Acked WorldV.mark_L_Ended WorldV.take_L_Ended WorldV.mark_L_At WorldV.take_L_At WorldV.mark_Nodes WorldV.take_Nodes WorldV.mark_Clients WorldV.take_Clients WorldV.mark_Net WorldV.take_Net WorldV.mark_Log WorldV.take_Log WorldV.mark_Maybe WorldV.take_Maybe
theorem r_l_FnExactTexts {Te:TE} (c_l_szWorld:C_l_szWorld Te) (c_l_toWorld:C_l_toWorld Te) (c_s_Texts:C_s_Texts Te) (c_i_Texts:C_i_Texts Te) (c_l_eqActS:C_l_eqActS Te) (c_l_eqWorld:C_l_eqWorld Te) (c_l_markWorld:C_l_markWorld Te) (c_l_markActS:C_l_markActS Te) (c_l_heldActS:C_l_heldActS Te):C_l_FnExactTexts (RF Te x_l_FnExactTexts):=by
 intro aW h_aW
 refine run0 ?_
 simp -implicitDefEqProofs (maxSteps:=1000000) only [x_l_FnExactTexts,go_sem]
 refine .of (c_l_szWorld aW (1048576) h_aW (by omega)) ?_
 simp -implicitDefEqProofs (maxSteps:=1000000) only [go_sem]
 refine fun q0=>?_
 replace q0:0≤(szWorld aW (1048576)):=by simpa using q0
 have cb_aW:(0:Int)≤(1048576)∧(1048576)≤(1048576:Int):=by omega
 have n_aW:aW.In (1048576):=szWorld_in (n:=1048576) cb_aW.1 cb_aW.2 q0
 have b_aW:0≤(szWorld aW (1048576))∧(szWorld aW (1048576))≤1048576:=⟨q0,Int.le_trans (szWorld_sane aW _ cb_aW.1) cb_aW.2⟩
 refine C0 (c_l_toWorld aW (n_aW.len (by decide))) ?_
 have lg:(texts aW).length≤2 ^ 31:=texts_len n_aW
 refine C0 (c_s_Texts aW (n_aW.mono (by decide))) ?_
 refine C0 (c_l_toWorld aW (n_aW.len (by decide))) ?_
 refine C0 (c_i_Texts aW (n_aW.mono (by decide))) ?_
 refine C0 (c_l_eqActS (texts aW) (texts aW) lg) ?_
 refine C0 (c_l_toWorld aW (n_aW.len (by decide))) ?_
 refine C0 (c_l_eqWorld (aW) (aW) (n_aW.len (by decide))) ?_
 refine C0 (c_l_markWorld (aW) 1 (n_aW.len (by decide)) (by decide) (world_far (j:=1048576) (by decide) q0)) ?_
 have f_k:decide (((aW).far 1) < 0)=false:=decide_eq_false (by have:=WorldV.far_ge (n_aW.len (by decide)) 1; omega)
 refine G1 f_k ?_
 refine C0 (c_l_eqActS (texts aW) (texts aW) lg) ?_
 refine C0 (c_l_markActS (texts aW) 1 lg (by omega)) ?_
 refine C0 (c_l_heldActS (texts aW).length 1 lg (by omega)) ?_
 have f_q:decide (((1:Int) + (6 * (texts aW).length:Nat)) < 0)=false:=decide_eq_false (by omega)
 refine G1 f_q ?_
 refine C0 (c_l_toWorld aW (n_aW.len (by decide))) ?_
 refine C0 (c_i_Texts aW (n_aW.mono (by decide))) ?_
 refine C0 (c_l_eqActS (texts aW) (texts aW) lg) ?_
 refine C0 (c_l_heldActS (texts aW).length 1 lg (by omega)) ?_
 exact F1 f_q
end Go.X

