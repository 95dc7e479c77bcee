/- Texts: CVe_3 CEc_12 CVzw_2 CVzw CVb_2 CEb_5 CVk CE_5 CU CB CB_3. -/
import Derived.Test.YtmmjaijeeeilcaaGreatDoorW04
set_option linter.unusedVariables false
set_option linter.unusedSimpArgs false
namespace Go.X
set_option maxRecDepth 100000
set_option maxHeartbeats 8000000
def x_s_RowOk:FnX:=⟨106,[.tmp 2],
  .q [.v 1 0,.F 2]
 (.seq (.q [.f 7 1 0,.l 8 7,.c 9 101 [8],.N 10 9,.m 11 10,.z 11 (.f 12 1 5),.z 11 (.l 13 12),.z 11 (.op 14 (.call 120 [0,0,0] [(.t 13),(.i 1),(.i 3)])),.z 11 (.N 15 14),.r 16 11 15,.m 17 16,.z 17 (.L 18 7 1),.z 17 (.c 19 291 [18]),.z 17 (.N 20 19),.z 17 (.m 21 20),.y 21 (.f 22 1 1),.y 21 (.L 23 2 22),.y 21 (.c 24 339 [23]),.y 21 (.N 25 24),.z 17 (.a 26 21 25),.r 27 17 26,.m 28 27,.z 28 (.L 29 7 1),.z 28 (.c 30 196 [29]),.z 28 (.N 31 30),.z 28 (.m 32 31),.y 32 (.f 33 1 3),.y 32 (.L 34 2 33),.y 32 (.c 35 339 [34]),.y 32 (.N 36 35),.z 28 (.a 37 32 36),.r 38 28 37]
 (.c 38 (.q [.F 2]
 .ret)))
 (.q [.f 40 1 1,.L 41 2 40,.c 42 197 [41],.m 39 42,.e 43 39 0,.e 44 39 1,.m 3 43,.m 4 44]
 (.q [.f 46 1 3,.L 47 2 46,.c 48 197 [47],.m 45 48,.e 49 45 0,.e 50 45 1,.m 5 49,.m 6 50]
 (.seq (.block 0 (.q [.L 52 7 1,.c 53 291 [52],.m 54 53,.y 54 (.f 55 1 1),.y 54 (.f 56 55 0),.y 54 (.l 57 56),.y 54 (.op 58 (.call 120 [0,0,0] [(.t 57),(.i 1),(.i 5)])),.y 54 (.N 59 58),.y 54 (.m 60 59),.z 60 (.f 61 1 1),.z 60 (.L 62 2 61),.z 60 (.c 63 286 [62]),.z 60 (.N 64 63),.y 54 (.r 65 60 64),.a 66 54 65,.m 51 66]
 (.cond 51 (.q [.F 2]
 .ret) (.q [.L 68 7 1,.c 69 196 [68],.m 70 69,.y 70 (.f 71 1 3),.y 70 (.f 72 71 0),.y 70 (.l 73 72),.y 70 (.B 74 .neq 73 0),.y 70 (.m 75 74),.z 75 (.m 76 6),.z 75 (.N 77 76),.y 70 (.r 78 75 77),.a 79 70 78,.m 67 79]
 (.cond 67 (.q [.F 2]
 .ret) (.q [.L 81 7 1,.c 82 291 [81],.m 83 82,.y 83 (.m 84 4),.y 83 (.N 85 84),.a 86 83 85,.m 87 86,.y 87 (.f 88 1 6),.y 87 (.l 89 88),.y 87 (.N 90 89),.y 87 (.m 91 90),.z 91 (.L 92 7 1),.z 91 (.c 93 196 [92]),.y 87 (.r 94 91 93),.a 95 87 94,.m 80 95]
 (.c 80 (.q [.F 2]
 .ret))))))))
 (.q [.f 96 1 5,.l 97 96,.B 98 .neq 97 3,.m 99 98,.z 99 (.f 100 1 1),.z 99 (.L 101 2 100),.z 99 (.f 102 1 3),.z 99 (.L 103 2 102),.z 99 (.c 104 340 [101,103]),.r 105 99 104,.m 2 105]
 .ret)))))⟩
theorem r_s_RowOk {Te:TE} (c_s_NameOk:C_s_NameOk Te) (c_s_l1In:C_s_l1In Te) (c_s_l9Old:C_s_l9Old Te) (c_s_l9None:C_s_l9None Te) (c_s_l9New:C_s_l9New Te) (c_s_CellText:C_s_CellText Te) (c_s_CellOk:C_s_CellOk Te) (c_s_SameText:C_s_SameText Te):C_s_RowOk (RF Te x_s_RowOk):=by
 intro r h
 obtain ⟨hk,_⟩:=h
 refine X0 x_s_RowOk.eq_1 ?_
 refine C0 (c_s_NameOk r.Key hk) ?_
 cases g1:nameOk r.Key
 ·have e:=rowOk_name (r:=r) g1
  exact F1 e
 refine G0 ?_
 refine C0 (c_s_l1In _ _ _) ?_
 cases g2:win r.Has 1 3
 ·have e:=rowOk_has (r:=r) g2
  exact F1 e
 have h3:=win13 g2
 obtain ⟨key,old,new,has,aside⟩:=r
 simp only at h3 g1 hk
 clear g2
 rcases h3 with rfl | rfl | rfl
 ·skip
  have e:=rowOk_1 (o:=old) (n:=new) (a:=aside) g1
  refine G0 ?_
  refine C0 (c_s_l9Old ⟨key,old,new,1,aside⟩ (by simp)) ?_
  refine C0 (c_s_l9New ⟨key,old,new,1,aside⟩ (by simp)) ?_
  refine C0 (c_s_l9None new) ?_
  cases n1:new.no
  ·exact F2 n1 e
  refine G1 n1 ?_
  refine C0 (c_s_CellText old) ?_
  refine C0 (c_s_CellText new) ?_
  refine C0 (c_s_l9Old ⟨key,old,new,1,aside⟩ (by simp)) ?_
  refine C0 (c_s_l1In _ _ _) ?_
  cases w:win old.Tag 1 5
  ·have e2:=tag_no w
   exact F3 w e e2
  have t:=tag_yes w
  refine G1 w ?_
  refine C0 (c_s_CellOk old) ?_
  cases o1:old.ok
  ·exact F2 o1 e
  refine G1 o1 ?_
  refine C0 (c_s_l9New ⟨key,old,new,1,aside⟩ (by simp)) ?_
  refine C0 (c_s_l9Old ⟨key,old,new,1,aside⟩ (by simp)) ?_
  cases o3:old.text.2
  ·cases aside
   ·exact F4 o3 e o1 t
   ·refine G1 o3 ?_
    refine .of (c_s_l9New ⟨key,old,new,1,true⟩ (by simp)) ?_
    try simp -implicitDefEqProofs (maxSteps:=1000000) only [go_sem,e,o1,t,o3,n1]
    repeat refine ⟨sc,?_⟩
    try exact sf
  ·try simp -implicitDefEqProofs (maxSteps:=1000000) only [go_sem,o3,e,o1,t,n1]
   repeat refine ⟨sc,?_⟩
   try exact sf
 ·skip
  have e:=rowOk_2 (o:=old) (n:=new) (a:=aside) g1
  refine G0 ?_
  refine C0 (c_s_l9Old ⟨key,old,new,2,aside⟩ (by simp)) ?_
  refine C0 (c_s_l9None old) ?_
  cases o1:old.no
  ·exact F2 o1 e
  refine G1 o1 ?_
  refine C0 (c_s_l9New ⟨key,old,new,2,aside⟩ (by simp)) ?_
  refine C0 (c_s_CellText old) ?_
  refine C0 (c_s_CellText new) ?_
  refine C0 (c_s_l9Old ⟨key,old,new,2,aside⟩ (by simp)) ?_
  refine C0 (c_s_l9New ⟨key,old,new,2,aside⟩ (by simp)) ?_
  cases n1:(new.Tag==0)
  ·have n1':(new.Tag != 0)=true:=by rw [bne,n1]; rfl
   exact F3 n1' e n1
  have n1':(new.Tag != 0)=false:=by rw [bne,n1]; rfl
  cases n2:new.text.2
  ·exact F3 n1' n2 e
  refine G2 n1' n2 ?_
  exact D4 (c_s_l9Old ⟨key,old,new,2,aside⟩ (by simp)) e o1 n1 n2
 ·skip
  have e:=rowOk_3 (o:=old) (n:=new) (a:=aside) g1
  refine G0 ?_
  refine C0 (c_s_l9Old ⟨key,old,new,3,aside⟩ (by simp)) ?_
  refine C0 (c_s_l9New ⟨key,old,new,3,aside⟩ (by simp)) ?_
  refine C0 (c_s_CellText old) ?_
  refine C0 (c_s_CellText new) ?_
  refine C0 (c_s_l9Old ⟨key,old,new,3,aside⟩ (by simp)) ?_
  refine C0 (c_s_l1In _ _ _) ?_
  cases w:win old.Tag 1 5
  ·have e2:=tag_no w
   exact F3 w e e2
  have t:=tag_yes w
  refine G1 w ?_
  refine C0 (c_s_CellOk old) ?_
  cases o1:old.ok
  ·exact F2 o1 e
  refine G1 o1 ?_
  refine C0 (c_s_l9New ⟨key,old,new,3,aside⟩ (by simp)) ?_
  cases n1:(new.Tag==0)
  ·have n1':(new.Tag != 0)=true:=by rw [bne,n1]; rfl
   exact F3 n1' e n1
  have n1':(new.Tag != 0)=false:=by rw [bne,n1]; rfl
  cases n2:new.text.2
  ·exact F3 n1' n2 e
  refine G2 n1' n2 ?_
  refine C0 (c_s_l9Old ⟨key,old,new,3,aside⟩ (by simp)) ?_
  cases o3:old.text.2
  ·cases aside
   ·exact F4 o3 e o1 t
   ·refine G1 o3 ?_
    exact D2 (c_s_l9New ⟨key,old,new,3,true⟩ (by simp)) e o3
  refine G1 o3 ?_
  refine .of (c_s_SameText old new) ?_
  try simp -implicitDefEqProofs (maxSteps:=1000000) only [go_sem,e,o1,t,o3,n1,n2]
  repeat refine ⟨sc,?_⟩
  try exact sf
def x_l_eqWorld:FnX:=⟨41,[.tmp 4],
  .q [.v 2 0,.v 3 1,.F 4]
 (.seq (.q [.f 5 2 0,.L 6 4 5,.f 7 3 0,.L 8 4 7,.c 9 136 [6,8],.N 10 9]
 (.c 10 (.q [.F 4]
 .ret)))
 (.seq (.q [.f 11 2 4,.l 12 11,.f 13 3 4,.l 14 13,.c 15 137 [12,14],.N 16 15]
 (.c 16 (.q [.F 4]
 .ret)))
 (.seq (.q [.f 17 2 5,.l 18 17,.f 19 3 5,.l 20 19,.c 21 138 [18,20],.N 22 21]
 (.c 22 (.q [.F 4]
 .ret)))
 (.seq (.q [.f 23 2 6,.l 24 23,.f 25 3 6,.l 26 25,.c 27 139 [24,26],.N 28 27]
 (.c 28 (.q [.F 4]
 .ret)))
 (.seq (.q [.f 29 2 7,.l 30 29,.f 31 3 7,.l 32 31,.c 33 50 [30,32],.N 34 33]
 (.c 34 (.q [.F 4]
 .ret)))
 (.seq (.q [.f 35 2 8,.l 36 35,.f 37 3 8,.l 38 37,.c 39 140 [36,38],.N 40 39]
 (.c 40 (.q [.F 4]
 .ret)))
 (.q [.T 4]
 .ret)))))))⟩
theorem r_l_eqWorld {Te:TE} (c_l_eqLead:C_l_eqLead Te) (c_l_eqNodeS:C_l_eqNodeS Te) (c_l_eqClientS:C_l_eqClientS Te) (c_l_eqMsgS:C_l_eqMsgS Te) (c_l_eqActS:C_l_eqActS Te) (c_l_eqActSS:C_l_eqActSS Te):C_l_eqWorld (RF Te x_l_eqWorld):=by
 intro x y hx
 refine run0 ?_
 obtain ⟨h0,h1,h2,h3,h4,h5⟩:=hx
 have key:(x=y)↔x.L=y.L∧x.Nodes=y.Nodes∧x.Clients=y.Clients∧x.Net=y.Net∧x.Log=y.Log∧x.Maybe=y.Maybe:=by cases x; cases y; simp
 simp only [key]
 clear key
 simp -implicitDefEqProofs (maxSteps:=1000000) only [x_l_eqWorld,go_sem]
 refine .of (c_l_eqLead _ _ h0) ?_
 simp -implicitDefEqProofs (maxSteps:=1000000) only [go_sem]
 refine ⟨fun q=>?_,fun q=>?_⟩
 ·have n0:¬ (x.L=y.L):=by simpa using q
  simp only [n0,false_and,and_false,true_and,decide_false]
 have e0:x.L=y.L:=by simpa using q
 clear q
 refine .of (c_l_eqNodeS _ _ h1) ?_
 simp -implicitDefEqProofs (maxSteps:=1000000) only [go_sem]
 refine ⟨fun q=>?_,fun q=>?_⟩
 ·have n1:¬ (x.Nodes=y.Nodes):=by simpa using q
  simp only [e0,n1,false_and,and_false,true_and,decide_false]
 have e1:x.Nodes=y.Nodes:=by simpa using q
 clear q
 refine .of (c_l_eqClientS _ _ h2) ?_
 simp -implicitDefEqProofs (maxSteps:=1000000) only [go_sem]
 refine ⟨fun q=>?_,fun q=>?_⟩
 ·have n2:¬ (x.Clients=y.Clients):=by simpa using q
  simp only [e0,e1,n2,false_and,and_false,true_and,decide_false]
 have e2:x.Clients=y.Clients:=by simpa using q
 clear q
 refine .of (c_l_eqMsgS _ _ (Nat.le_trans h3 (by decide))) ?_
 simp -implicitDefEqProofs (maxSteps:=1000000) only [go_sem]
 refine ⟨fun q=>?_,fun q=>?_⟩
 ·have n3:¬ (x.Net=y.Net):=by simpa using q
  simp only [e0,e1,e2,n3,false_and,and_false,true_and,decide_false]
 have e3:x.Net=y.Net:=by simpa using q
 clear q
 refine .of (c_l_eqActS _ _ (Nat.le_trans h4 (by decide))) ?_
 simp -implicitDefEqProofs (maxSteps:=1000000) only [go_sem]
 refine ⟨fun q=>?_,fun q=>?_⟩
 ·have n4:¬ (x.Log=y.Log):=by simpa using q
  simp only [e0,e1,e2,e3,n4,false_and,and_false,true_and,decide_false]
 have e4:x.Log=y.Log:=by simpa using q
 clear q
 refine .of (c_l_eqActSS _ _ h5) ?_
 simp -implicitDefEqProofs (maxSteps:=1000000) only [go_sem]
 refine ⟨fun q=>?_,fun q=>?_⟩
 ·have n5:¬ (x.Maybe=y.Maybe):=by simpa using q
  simp only [e0,e1,e2,e3,e4,n5,false_and,and_false,true_and,decide_false]
 have e5:x.Maybe=y.Maybe:=by simpa using q
 clear q
 simp only [e0,e1,e2,e3,e4,e5,true_and,and_true,decide_true]
def x_l_markWorld:FnX:=⟨30,[.tmp 4],
  .q [.v 2 0,.i 4 0]
 (.q [.f 5 2 0,.L 6 4 5,.m 7 1,.op 8 (.io 141 (.t 6) [(.t 7)]),.m 1 8]
 (.q [.f 9 2 4,.l 10 9,.m 11 1,.op 12 (.io 142 (.t 10) [(.t 11)]),.m 1 12]
 (.q [.f 13 2 5,.l 14 13,.m 15 1,.op 16 (.io 143 (.t 14) [(.t 15)]),.m 1 16]
 (.q [.f 17 2 6,.l 18 17,.m 19 1,.op 20 (.io 144 (.t 18) [(.t 19)]),.m 1 20]
 (.q [.f 21 2 7,.l 22 21,.m 23 1,.op 24 (.io 53 (.t 22) [(.t 23)]),.m 1 24]
 (.q [.f 25 2 8,.l 26 25,.m 27 1,.op 28 (.io 145 (.t 26) [(.t 27)]),.m 1 28]
 (.q [.m 29 1,.m 4 29]
 .ret)))))))⟩
theorem r_l_markWorld {Te:TE} (c_l_markLead:C_l_markLead Te) (c_l_markNodeS:C_l_markNodeS Te) (c_l_markClientS:C_l_markClientS Te) (c_l_markMsgS:C_l_markMsgS Te) (c_l_markActS:C_l_markActS Te) (c_l_markActSS:C_l_markActSS Te):C_l_markWorld (RF Te x_l_markWorld):=by
 intro x k hx hk hf
 refine run0 ?_
 obtain ⟨h0,h1,h2,h3,h4,h5⟩:=hx
 replace hf:(farL (fun y k=>k + (6 * y.length:Nat)) x.Maybe ((((farL ClientV.farE x.Clients ((farL NodeV.farE x.Nodes ((x.L.far k))))) + (8 * x.Net.length:Nat)) + (6 * x.Log.length:Nat))))≤2 ^ 40:=hf
 have w0:k≤(x.L.far k):=by simp only [Lead.far]; omega
 have w1:=farL_mono h1.2 monoNodeS (x.L.far k)
 have w2:=farL_mono h2.2 monoClientS (farL NodeV.farE x.Nodes ((x.L.far k)))
 have w3:(farL ClientV.farE x.Clients ((farL NodeV.farE x.Nodes ((x.L.far k)))))≤((farL ClientV.farE x.Clients ((farL NodeV.farE x.Nodes ((x.L.far k))))) + (8 * x.Net.length:Nat)):=by omega
 have w4:((farL ClientV.farE x.Clients ((farL NodeV.farE x.Nodes ((x.L.far k))))) + (8 * x.Net.length:Nat))≤(((farL ClientV.farE x.Clients ((farL NodeV.farE x.Nodes ((x.L.far k))))) + (8 * x.Net.length:Nat)) + (6 * x.Log.length:Nat)):=by omega
 have w5:=farL_mono h5.2 monoActSS (((farL ClientV.farE x.Clients ((farL NodeV.farE x.Nodes ((x.L.far k))))) + (8 * x.Net.length:Nat)) + (6 * x.Log.length:Nat))
 simp -implicitDefEqProofs (maxSteps:=1000000) only [x_l_markWorld,go_sem]
 repeat (refine ⟨by decide,?_⟩)
 refine .of (c_l_markLead _ _ h0 (by omega)) ?_
 simp -implicitDefEqProofs (maxSteps:=1000000) only [go_sem]
 repeat (refine back_bif (by simp -implicitDefEqProofs (maxSteps:=1000000) only [go_sem]) ?_; simp -implicitDefEqProofs (maxSteps:=1000000) only [go_sem])
 repeat (refine ⟨by decide,?_⟩)
 refine .of (c_l_markNodeS _ _ h1 (by omega) (by omega)) ?_
 simp -implicitDefEqProofs (maxSteps:=1000000) only [go_sem]
 repeat (refine back_bif (by simp -implicitDefEqProofs (maxSteps:=1000000) only [go_sem]) ?_; simp -implicitDefEqProofs (maxSteps:=1000000) only [go_sem])
 repeat (refine ⟨by decide,?_⟩)
 refine .of (c_l_markClientS _ _ h2 (by omega) (by omega)) ?_
 simp -implicitDefEqProofs (maxSteps:=1000000) only [go_sem]
 repeat (refine back_bif (by simp -implicitDefEqProofs (maxSteps:=1000000) only [go_sem]) ?_; simp -implicitDefEqProofs (maxSteps:=1000000) only [go_sem])
 repeat (refine ⟨by decide,?_⟩)
 refine .of (c_l_markMsgS _ _ (Nat.le_trans h3 (by decide)) (by omega)) ?_
 simp -implicitDefEqProofs (maxSteps:=1000000) only [go_sem]
 repeat (refine back_bif (by simp -implicitDefEqProofs (maxSteps:=1000000) only [go_sem]) ?_; simp -implicitDefEqProofs (maxSteps:=1000000) only [go_sem])
 repeat (refine ⟨by decide,?_⟩)
 refine .of (c_l_markActS _ _ (Nat.le_trans h4 (by decide)) (by omega)) ?_
 simp -implicitDefEqProofs (maxSteps:=1000000) only [go_sem]
 repeat (refine back_bif (by simp -implicitDefEqProofs (maxSteps:=1000000) only [go_sem]) ?_; simp -implicitDefEqProofs (maxSteps:=1000000) only [go_sem])
 repeat (refine ⟨by decide,?_⟩)
 refine .of (c_l_markActSS _ _ h5 (by omega) (by omega)) ?_
 simp -implicitDefEqProofs (maxSteps:=1000000) only [go_sem]
 repeat (refine back_bif (by simp -implicitDefEqProofs (maxSteps:=1000000) only [go_sem]) ?_; simp -implicitDefEqProofs (maxSteps:=1000000) only [go_sem])
 rfl
def x_s_Texts:FnX:=⟨63,[.tmp 2],
  .q [.v 1 0,.op 2 (.mv (.k (.one (.nils 6))))]
 (.q [.op 9 (.bslice 6 []),.m 3 9]
 (.seq (.q [.i 4 0]
 (.block 0 (.loop [1,3,4] (.seq (.q [.m 10 4,.f 11 1 4,.l 12 11,.n 13 12,.b 14 .lss 10 13]
 (.cond 14 .skip (.exit 0)))
 (.seq (.block 1 (.q [.f 17 1 4,.l 18 17,.m 19 4,.x 20 10 18 19,.L 21 10 20,.op 5 (.alloc [.nils 1,.nils 2,.i 0,.F,.nils 7,.i 0,.nils 3,.i 0,.i 0,.i 0]),.s 100001 10 5 21]
 (.q [.i 6 0]
 (.block 2 (.loop [1,3,4,5,6] (.seq (.q [.m 22 6,.f 23 5 0,.f 24 23 4,.f 25 24 0,.l 26 25,.n 27 26,.b 28 .lss 22 27,.m 29 28,.y 29 (.L 30 10 5),.y 29 (.c 31 64 [30]),.a 32 29 31]
 (.cond 32 .skip (.exit 2)))
 (.seq (.block 3 (.seq (.draw [.L 36 10 5,.f 37 5 0,.f 38 37 4,.f 39 38 0,.l 40 39,.m 41 6,.x 42 7 40 41,.f 43 42 0,.l 44 43,.c 45 31 [36,44],.m 35 45,.e 46 35 0,.e 47 35 1,.m 7 46,.m 8 47] [[],[],[1],[2],[3],[],[4,5],[6],[7],[0,8],[9],[10],[10],[11,9,0,1,2,3,4,5,6,7,8,9,10,11],[12,13,0,1,2,3,4,5,6,7,8,9,10,11,12,13]])
 (.reg [.m 48 3,.f 49 5 0,.f 50 49 4,.f 51 50 0,.l 52 51,.m 53 6,.x 54 7 52 53,.f 55 54 0,.l 56 55,.m 57 7,.m 58 8,.op 59 (.build [.i 0,.i 0,.i 0,.e,.e,.i 0] [(0,1,(.i 1)),(3,1,(.t 56)),(4,1,(.t 57)),(5,1,(.t 58))]),.op 60 (.bslice 6 [(.t 59)]),.op 61 (.app 6 64 (.t 48) (.t 60)),.m 3 61])))
 (.reg [.m 33 6,.B 34 .add 33 1,.m 6 34]))))))))
 (.norm [1,3,4] (.reg [.m 15 4,.B 16 .add 15 1,.m 4 16])))))))
 (.norm [3] (.q [.m 62 3,.m 2 62]
 .ret))))⟩
theorem r_s_Texts {Te:TE} (c_s_l15Up:C_s_l15Up Te) (c_s_NodeGet:C_s_NodeGet Te):C_s_Texts (RF Te x_s_Texts):=by
 intro w hw
 obtain ⟨hN,hI⟩:=hw.2.1
 refine X0 x_s_Texts.eq_1 ?_
 refine loop_of (σ:=Nat×List ActV) (fun x=>⟨[(1,.bp 1 0),(3,.one (.rf 64 0 [] 6 0 x.2.length)),(4,.one (.pv (.int .i64 x.1)))],[(1,[.pv (.int .i64 w.L.Phase),.ro 1 (w.L.Acked.map bR),.ro 1 (w.L.Ended.map bR),.ro 1 (w.L.At.map sR),.ro 10 (w.Nodes.map (NodeV.enc false)),.ro 12 (w.Clients.map (ClientV.enc false)),.ro 8 (w.Net.map Msg.row),.ro 6 (w.Log.map ActV.row),.ro 1 (w.Maybe.map (fun y=>[slT false 6 ActV.row y]))])],[(0,w.enc false),(64,[slT true 6 ActV.row x.2])]⟩) (fun x=>x.1≤w.Nodes.length∧x.2=(w.Nodes.take x.1).flatMap nodeActs) (fun x=>w.Nodes.length - x.1) (0,[]) ?_ ⟨Nat.zero_le _,rfl⟩ ?_
 ·simp -implicitDefEqProofs (maxSteps:=1000000) only [go_sem]
  try rfl
 ·rintro ⟨i,l⟩ ⟨hi,he⟩
  simp only at hi he
  have hl:=acts_len (w.Nodes.take i)
  rw [← he,List.length_take] at hl
  have et:∀ l:List ActV,List.take l.length (List.map ActV.row l)=List.map ActV.row l:=fun l=>List.take_of_length_le (by simp)
  cases q:decide ((i:Int) < (w.Nodes.length:Int))
  ·have e:texts w=l:=by rw [he,List.take_of_length_le (by simp only [decide_eq_false_iff_not] at q; omega)]; rfl
   exact F3 q e et
  ·have k1:i < w.Nodes.length:=by simp only [decide_eq_true_eq] at q; omega
   have hn:=hI _ (List.getElem_mem k1)
   have ea:=acts_step k1
   rw [← he] at ea
   have k2:=List.getElem?_eq_getElem k1
   generalize w.Nodes[i]=n at hn k2 ea
   have e0:n.up=false→nodeActs n=[]:=fun g=>by rw [nodeActs,g]; rfl
   have e1:n.up=true→nodeActs n=n.S.T.Rows.map (rowAct n):=fun g=>by rw [nodeActs,g]; rfl
   have hR:n.S.T.Rows.length≤2 ^ 20:=hn.2.1.1
   refine G2 q k2 ?_
   refine loop_of (σ:=Nat×List ActV) (fun x=>⟨[(1,.bp 1 0),(3,.one (.rf 64 0 [] 6 0 x.2.length)),(4,.one (.pv (.int .i64 i))),(5,.bp 5 0),(6,.one (.pv (.int .i64 x.1)))],[(1,[.pv (.int .i64 w.L.Phase),.ro 1 (w.L.Acked.map bR),.ro 1 (w.L.Ended.map bR),.ro 1 (w.L.At.map sR),.ro 10 (w.Nodes.map (NodeV.enc false)),.ro 12 (w.Clients.map (ClientV.enc false)),.ro 8 (w.Net.map Msg.row),.ro 6 (w.Log.map ActV.row),.ro 1 (w.Maybe.map (fun y=>[slT false 6 ActV.row y]))]),(5,[.ro 1 (n.S.D.Secs.map (fun y=>[slT false 1 uR y])),.ro 2 (n.S.D.Cache.map (WrV.enc false)),.pv (.int .i64 n.S.D.Fuse),.pv (.bool n.S.D.Down),.ro 7 (n.S.T.Rows.map (RowV.enc false)),.pv (.int .i64 n.S.T.Phase),.ro 3 (n.S.T.Marks.map MarkV.row),.pv (.int .i64 n.S.Gen),.pv (.int .i64 n.S.Place),.pv (.int .i64 n.Cs)])],[(0,w.enc false),(64,[slT true 6 ActV.row x.2])]⟩) (fun x=>x.1≤n.S.T.Rows.length∧(0 < x.1→n.up=true)∧x.2=l++(n.S.T.Rows.take x.1).map (rowAct n)) (fun x=>n.S.T.Rows.length - x.1) (0,l) ?_ ⟨Nat.zero_le _,fun h=>absurd h (Nat.lt_irrefl 0),by simp only [List.take_zero,List.map_nil,List.append_nil]⟩ ?_
   ·simp -implicitDefEqProofs (maxSteps:=1000000) only [go_sem]
    try rfl
   ·rintro ⟨k,b⟩ ⟨hk,hu,hbe⟩
    simp only at hk hu hbe
    have hb:b.length=l.length + k:=by rw [hbe,List.length_append,List.length_map,List.length_take]; omega
    have hb2:b.length≤2 ^ 24:=by omega
    cases q2:decide ((k:Int) < (n.S.T.Rows.length:Int))
    ·have k0:k=n.S.T.Rows.length:=by simp only [decide_eq_false_iff_not] at q2; omega
     have eb:b=l++nodeActs n:=by
      cases g:n.up
      ·have:k=0:=by
        rcases Nat.eq_zero_or_pos k with h | h
        ·exact h
        ·rw [hu h] at g; cases g
       rw [hbe,this,e0 g]
       rfl
      ·rw [hbe,k0,List.take_length,e1 g]
     refine G1 q2 ?_
     exact ⟨(i + 1,b),by rw [IntWalk.i64_in _ (by omega)]; rfl,⟨k1,by rw [eb,ea]⟩,by simp only; omega⟩
    ·have k3:k < n.S.T.Rows.length:=by simp only [decide_eq_true_eq] at q2; omega
     have ear:=acts_row l k3
     rw [← hbe] at ear
     have k4:=List.getElem?_eq_getElem k3
     generalize n.S.T.Rows[k]=r at k4 ear
     have e9:List.map ActV.row b++[[iT 1,iT 0,iT 0,sT r.Key,sT (n.get r.Key).1,iT (n.get r.Key).2]]=List.map ActV.row (b++[rowAct n r]):=app1A b (rowAct n r)
     refine G1 q2 ?_
     cases g:n.up
     ·have hk0:k=0:=by
       rcases Nat.eq_zero_or_pos k with h | h
       ·exact h
       ·rw [hu h] at g; cases g
      have eb:b=l++nodeActs n:=by
       rw [hbe,hk0,e0 g]
       rfl
      refine C1 (c_s_l15Up n (hn.mono (by decide))) g ?_
      exact ⟨(i + 1,b),by rw [IntWalk.i64_in _ (by omega)]; rfl,⟨k1,by rw [eb,ea]⟩,by simp only; omega⟩
     ·have h8:=rows_8 g
      refine C2 (c_s_l15Up n (hn.mono (by decide))) g k4 ?_
      refine C1 (c_s_NodeGet n r.Key (hn.mono (by decide))) k4 ?_
      refine G2 et e9 ?_
      refine ⟨(k + 1,b++[rowAct n r]),?_,⟨k3,fun _=>(by first | exact g | trivial),ear⟩,by simp only; omega⟩
      rw [IntWalk.i64_in _ (by omega)]
      simp only [List.length_append]
      rfl
def x_i_Texts:FnX:=⟨48,[.tmp 2],
  .q [.v 1 0,.op 2 (.mv (.k (.one (.nils 6))))]
 (.q [.op 10 (.bslice 6 []),.m 3 10]
 (.seq (.q [.f 11 1 4,.l 12 11,.n 13 12,.i 14 0]
 (.block 0 (.loop [3,12,13,14] (.q [.b 15 .lss 14 13]
 (.seq (.cond 15 .skip (.exit 0))
 (.seq (.block 1 (.q [.x 16 10 12 14,.L 17 10 16,.op 5 (.alloc [.nils 1,.nils 2,.i 0,.F,.nils 7,.i 0,.nils 3,.i 0,.i 0,.i 0]),.s 100001 10 5 17]
 (.seq (.q [.L 18 10 5,.c 19 82 [18],.N 20 19]
 (.c 20 (.exit 1)))
 (.q [.f 21 5 0,.f 22 21 4,.f 23 22 0,.l 24 23,.n 25 24,.i 26 0]
 (.block 2 (.loop [3,5,12,13,14,24,25,26] (.q [.b 27 .lss 26 25]
 (.seq (.cond 27 .skip (.exit 2))
 (.seq (.block 3 (.q [.x 28 7 24 26,.L 29 7 28,.op 7 (.alloc [.e,.i 0,.nils 1,.i 0,.nils 1,.i 0,.F]),.s 100002 7 7 29]
 (.q [.L 31 10 5,.f 32 7 0,.l 33 32,.c 34 22 [31,33],.m 30 34,.e 35 30 0,.e 36 30 1,.m 8 35,.m 9 36]
 (.reg [.m 37 3,.f 38 7 0,.l 39 38,.m 40 8,.m 41 9,.op 42 (.build [.i 0,.i 0,.i 0,.e,.e,.i 0] [(0,1,(.i 1)),(3,1,(.t 39)),(4,1,(.t 40)),(5,1,(.t 41))]),.op 43 (.bslice 6 [(.t 42)]),.op 44 (.app 6 64 (.t 37) (.t 43)),.m 3 44]))))
 (.reg [.B 45 .add 26 1,.m 26 45]))))))))))
 (.norm [3,12,13,14] (.reg [.B 46 .add 14 1,.m 14 46]))))))))
 (.norm [3] (.q [.m 47 3,.m 2 47]
 .ret))))⟩
theorem r_i_Texts {Te:TE} (c_i_isUp:C_i_isUp Te) (c_i_NodeGet:C_i_NodeGet Te):C_i_Texts (RF Te x_i_Texts):=by
 intro w hw
 obtain ⟨hN,hI⟩:=hw.2.1
 refine X0 x_i_Texts.eq_1 ?_
 refine loop_of (σ:=Nat×List ActV) (fun x=>⟨[(3,.one (.rf 49 0 [] 6 0 x.2.length)),(12,.one (.ro 10 (w.Nodes.map (NodeV.enc false)))),(13,.one (.pv (.int .i64 w.Nodes.length))),(14,.one (.pv (.int .i64 x.1)))],[],[(0,w.enc false),(49,[slT true 6 ActV.row x.2])]⟩) (fun x=>x.1≤w.Nodes.length∧x.2=(w.Nodes.take x.1).flatMap nodeActs) (fun x=>w.Nodes.length - x.1) (0,[]) ?_ ⟨Nat.zero_le _,rfl⟩ ?_
 ·simp -implicitDefEqProofs (maxSteps:=1000000) only [go_sem]
  try rfl
 ·rintro ⟨i,l⟩ ⟨hi,he⟩
  simp only at hi he
  have hl:=acts_len (w.Nodes.take i)
  rw [← he,List.length_take] at hl
  have et:∀ l:List ActV,List.take l.length (List.map ActV.row l)=List.map ActV.row l:=fun l=>List.take_of_length_le (by simp)
  cases q:decide ((i:Int) < (w.Nodes.length:Int))
  ·have e:texts w=l:=by rw [he,List.take_of_length_le (by simp only [decide_eq_false_iff_not] at q; omega)]; rfl
   exact F3 q e et
  ·have k1:i < w.Nodes.length:=by simp only [decide_eq_true_eq] at q; omega
   have hn:=hI _ (List.getElem_mem k1)
   have ea:=acts_step k1
   rw [← he] at ea
   have k2:=List.getElem?_eq_getElem k1
   generalize w.Nodes[i]=n at hn k2 ea
   refine G2 q k2 ?_
   refine C0 (c_i_isUp n (hn.mono (by decide))) ?_
   cases g:n.up
   ·have e:nodeActs n=[]:=by rw [nodeActs,g]; rfl
    refine G0 ?_
    exact ⟨(i + 1,l),by rw [IntWalk.i64_in _ (by omega)]; rfl,⟨k1,by rw [ea,e,List.append_nil]⟩,by simp only; omega⟩
   ·have h8:=rows_8 g
    have e:nodeActs n=n.S.T.Rows.map (rowAct n):=by rw [nodeActs,g]; rfl
    rw [e] at ea
    refine G0 ?_
    refine loop_of (σ:=Nat×List ActV) (fun x=>⟨[(3,.one (.rf 49 0 [] 6 0 x.2.length)),(5,.bp 5 0),(12,.one (.ro 10 (w.Nodes.map (NodeV.enc false)))),(13,.one (.pv (.int .i64 w.Nodes.length))),(14,.one (.pv (.int .i64 i))),(24,.one (.ro 7 (n.S.T.Rows.map (RowV.enc false)))),(25,.one (.pv (.int .i64 n.S.T.Rows.length))),(26,.one (.pv (.int .i64 x.1)))],[(5,[.ro 1 (n.S.D.Secs.map (fun y=>[slT false 1 uR y])),.ro 2 (n.S.D.Cache.map (WrV.enc false)),.pv (.int .i64 n.S.D.Fuse),.pv (.bool n.S.D.Down),.ro 7 (n.S.T.Rows.map (RowV.enc false)),.pv (.int .i64 n.S.T.Phase),.ro 3 (n.S.T.Marks.map MarkV.row),.pv (.int .i64 n.S.Gen),.pv (.int .i64 n.S.Place),.pv (.int .i64 n.Cs)])],[(0,w.enc false),(49,[slT true 6 ActV.row x.2])]⟩) (fun x=>x.1≤n.S.T.Rows.length∧x.2=l++(n.S.T.Rows.take x.1).map (rowAct n)) (fun x=>n.S.T.Rows.length - x.1) (0,l) ?_ ⟨Nat.zero_le _,by simp only [List.take_zero,List.map_nil,List.append_nil]⟩ ?_
    ·simp -implicitDefEqProofs (maxSteps:=1000000) only [go_sem]
     try rfl
    ·rintro ⟨k,b⟩ ⟨hk,hbe⟩
     simp only at hk hbe
     have hb:b.length=l.length + k:=by rw [hbe,List.length_append,List.length_map,List.length_take]; omega
     cases q2:decide ((k:Int) < (n.S.T.Rows.length:Int))
     ·have k0:k=n.S.T.Rows.length:=by simp only [decide_eq_false_iff_not] at q2; omega
      rw [k0,List.take_length,← ea] at hbe
      refine G1 q2 ?_
      exact ⟨(i + 1,b),by rw [IntWalk.i64_in _ (by omega)]; rfl,⟨k1,hbe⟩,by simp only; omega⟩
     ·have k3:k < n.S.T.Rows.length:=by simp only [decide_eq_true_eq] at q2; omega
      have ear:=acts_row l k3
      rw [← hbe] at ear
      have k4:=List.getElem?_eq_getElem k3
      generalize n.S.T.Rows[k]=r at k4 ear
      have e1:List.map ActV.row b++[[iT 1,iT 0,iT 0,sT r.Key,sT (n.get r.Key).1,iT (n.get r.Key).2]]=List.map ActV.row (b++[rowAct n r]):=app1A b (rowAct n r)
      refine G2 q2 k4 ?_
      refine C0 (c_i_NodeGet n r.Key (hn.mono (by decide))) ?_
      refine G2 et e1 ?_
      refine ⟨(k + 1,b++[rowAct n r]),?_,⟨k3,ear⟩,by simp only; omega⟩
      rw [IntWalk.i64_in _ (by omega)]
      simp only [List.length_append]
      rfl
def x_i_EucSign:FnX:=⟨54,[.tmp 4,.tmp 5,.tmp 6],
  .q [.i 4 0,.i 5 0,.F 6]
 (.seq (.q [.m 9 1,.B 10 .lss 9 0,.m 11 10,.z 11 (.m 12 1),.z 11 (.m 13 0),.z 11 (.n 14 13),.z 11 (.b 15 .geq 12 14),.r 16 11 15]
 (.c 16 (.q [.i 4 0,.i 5 0,.F 6]
 .ret)))
 (.seq (.q [.m 17 0,.m 18 1,.x 19 1 17 18,.l 20 19,.op 21 (.bin .leq (.t 20) (.k (.one (.pv (.int .u8 127)))))]
 (.c 21 (.q [.m 22 0,.m 23 1,.x 24 1 22 23,.l 25 24,.op 26 (.conv (.int .i64) (.t 25)),.m 27 1,.B 28 .add 27 1,.m 4 26,.m 5 28,.T 6]
 .ret)))
 (.seq (.q [.m 29 1,.B 30 .add 29 1,.m 31 0,.n 32 31,.b 33 .eql 30 32]
 (.c 33 (.q [.i 4 0,.i 5 0,.F 6]
 .ret)))
 (.seq (.draw [.m 35 0,.m 36 1,.x 37 1 35 36,.l 38 37,.op 39 (.conv (.int .i64) (.t 38)),.m 40 0,.m 41 1,.B 42 .add 41 1,.x 43 1 40 42,.l 44 43,.op 45 (.conv (.int .i64) (.t 44)),.c 46 324 [39,45],.m 34 46,.e 47 34 0,.e 48 34 1,.m 7 47,.m 8 48] [[],[],[0,1],[2],[3],[],[],[6],[5,7],[8],[9],[4,10],[11],[12],[12],[13,11,0,1,2,3,4,5,6,7,8,9,10,11,12,13],[14,15,0,1,2,3,4,5,6,7,8,9,10,11,12,13,14,15]])
 (.seq (.q [.m 49 8,.N 50 49]
 (.c 50 (.q [.i 4 0,.i 5 0,.F 6]
 .ret)))
 (.q [.m 51 7,.m 52 1,.B 53 .add 52 2,.m 4 51,.m 5 53,.T 6]
 .ret))))))⟩
theorem r_i_EucSign {Te:TE} (c_i_PairSign:C_i_PairSign Te):C_i_EucSign (RF Te x_i_EucSign):=by
 intro b i hb
 refine run0 ?_
 by_cases hi:0≤i∧i < b.length
 ·obtain ⟨k,rfl⟩:∃ k:Nat,i=k:=⟨i.toNat,by omega⟩
  have hk:k < b.length:=by omega
  have eb:b[k].toNat=byteN (b.drop k) 0:=byteN_drop (j:=0) hk
  have hlt:=byteN_lt (b.drop k) 0
  have hlt1:=byteN_lt (b.drop k) 1
  have w3:IntKind.i64.wrap ((byteN (b.drop k) 0:Nat):Int)=(byteN (b.drop k) 0:Nat):=IntWalk.i64_in _ (by omega)
  have w4:IntKind.i64.wrap ((byteN (b.drop k) 1:Nat):Int)=(byteN (b.drop k) 1:Nat):=IntWalk.i64_in _ (by omega)
  have w5:IntKind.i64.wrap ((k:Int) + 1)=(k:Int) + 1:=IntWalk.i64_in _ (by omega)
  have w6:IntKind.i64.wrap ((k:Int) + 2)=(k:Int) + 2:=IntWalk.i64_in _ (by omega)
  have w7:((k:Int) + 1).toNat=k + 1:=by omega
  have q8:decide ((k:Int) < 0)=false:=decide_eq_false (by omega)
  have q9:decide ((k:Int)≥(b.length:Int))=false:=decide_eq_false (by omega)
  cases q:decide (((byteN (b.drop k) 0:Nat):Int)≤127)
  ·have h1:¬ byteN (b.drop ((k:Nat):Int).toNat) 0 < 128:=by rw [Int.toNat_natCast]; simp only [decide_eq_false_iff_not] at q; omega
   cases q2:((k:Int) + 1==(b.length:Int))
   ·have h3:(k:Int) + 1 < b.length:=by
     have:(k:Int) + 1≠(b.length:Int):=by simpa using q2
     omega
    have hk1:k + 1 < b.length:=by omega
    have eb1:b[k + 1].toNat=byteN (b.drop k) 1:=byteN_drop (j:=1) hk1
    simp -implicitDefEqProofs (maxSteps:=1000000) only [x_i_EucSign,go_sem,q,q2,q8,q9,List.getElem?_eq_getElem hk,eb,w3,w5,w7,List.getElem?_eq_getElem hk1,eb1,w4]
    repeat refine ⟨sc,?_⟩
    try exact sf
    refine .of (c_i_PairSign _ _ (by omega)) ?_
    try simp -implicitDefEqProofs (maxSteps:=1000000) only [go_sem]
    repeat refine ⟨sc,?_⟩
    try exact sf
    cases q3:(pairSign ((byteN (b.drop k) 0:Nat):Int) ((byteN (b.drop k) 1:Nat):Int)).2
    ·have e:=euc_bad hi h1 q3
     exact F2 q3 e
    ·have e:=euc_two hi h1 h3 q3
     exact F3 q3 e w6
   ·have e:=euc_end hi h1 (by have:=eq_of_beq q2; omega)
    simp -implicitDefEqProofs (maxSteps:=1000000) only [x_i_EucSign,go_sem,q,q2,q8,q9,List.getElem?_eq_getElem hk,eb,w3,w5,e]
    repeat refine ⟨sc,?_⟩
    try exact sf
  ·have e:=euc_one hi (by rw [Int.toNat_natCast]; simp only [decide_eq_true_eq] at q; omega)
   simp -implicitDefEqProofs (maxSteps:=1000000) only [x_i_EucSign,go_sem,q,q8,q9,List.getElem?_eq_getElem hk,eb,w3,w5,e]
   repeat refine ⟨sc,?_⟩
   try exact sf
 ·have e:=euc_no hi
  cases q8:decide (i < 0)
  ·have q9:decide (i≥(b.length:Int))=true:=by simp only [decide_eq_false_iff_not] at q8; exact decide_eq_true (by omega)
   simp -implicitDefEqProofs (maxSteps:=1000000) only [x_i_EucSign,go_sem,q8,q9,e]
   repeat refine ⟨sc,?_⟩
   try exact sf
  ·simp -implicitDefEqProofs (maxSteps:=1000000) only [x_i_EucSign,go_sem,q8,e]
   repeat refine ⟨sc,?_⟩
   try exact sf
def x_s_EucSign:FnX:=⟨52,[.tmp 4,.tmp 5,.tmp 6],
  .q [.i 4 0,.i 5 0,.F 6]
 (.seq (.q [.m 9 1,.m 10 0,.n 11 10,.B 12 .sub 11 1,.op 13 (.call 120 [0,0,0] [(.t 9),(.i 0),(.t 12)]),.N 14 13]
 (.c 14 (.q [.i 4 0,.i 5 0,.F 6]
 .ret)))
 (.seq (.q [.m 15 0,.m 16 1,.x 17 1 15 16,.l 18 17,.op 19 (.bin .lss (.t 18) (.k (.one (.pv (.int .u8 128)))))]
 (.c 19 (.q [.m 20 0,.m 21 1,.x 22 1 20 21,.l 23 22,.op 24 (.conv (.int .i64) (.t 23)),.m 25 1,.B 26 .add 25 1,.m 4 24,.m 5 26,.T 6]
 .ret)))
 (.seq (.q [.m 27 1,.B 28 .add 27 1,.m 29 0,.n 30 29,.b 31 .geq 28 30]
 (.c 31 (.q [.i 4 0,.i 5 0,.F 6]
 .ret)))
 (.seq (.draw [.m 33 0,.m 34 1,.x 35 1 33 34,.l 36 35,.op 37 (.conv (.int .i64) (.t 36)),.m 38 0,.m 39 1,.B 40 .add 39 1,.x 41 1 38 40,.l 42 41,.op 43 (.conv (.int .i64) (.t 42)),.c 44 330 [37,43],.m 32 44,.e 45 32 0,.e 46 32 1,.m 7 45,.m 8 46] [[],[],[0,1],[2],[3],[],[],[6],[5,7],[8],[9],[4,10],[11],[12],[12],[13,11,0,1,2,3,4,5,6,7,8,9,10,11,12,13],[14,15,0,1,2,3,4,5,6,7,8,9,10,11,12,13,14,15]])
 (.seq (.q [.m 47 8,.N 48 47]
 (.c 48 (.q [.i 4 0,.i 5 0,.F 6]
 .ret)))
 (.q [.m 49 7,.m 50 1,.B 51 .add 50 2,.m 4 49,.m 5 51,.T 6]
 .ret))))))⟩
theorem r_s_EucSign {Te:TE} (c_s_l1In:C_s_l1In Te) (c_s_PairSign:C_s_PairSign Te):C_s_EucSign (RF Te x_s_EucSign):=by
 intro b i hb
 have w1:IntKind.i64.wrap ((b.length:Int) - 1)=(b.length:Int) - 1:=IntWalk.i64_in _ (by omega)
 by_cases hi:0≤i∧i < b.length
 ·obtain ⟨k,rfl⟩:∃ k:Nat,i=k:=⟨i.toNat,by omega⟩
  have hk:k < b.length:=by omega
  have eb:b[k].toNat=byteN (b.drop k) 0:=byteN_drop (j:=0) hk
  have hlt:=byteN_lt (b.drop k) 0
  have hlt1:=byteN_lt (b.drop k) 1
  have w3:IntKind.i64.wrap ((byteN (b.drop k) 0:Nat):Int)=(byteN (b.drop k) 0:Nat):=IntWalk.i64_in _ (by omega)
  have w4:IntKind.i64.wrap ((byteN (b.drop k) 1:Nat):Int)=(byteN (b.drop k) 1:Nat):=IntWalk.i64_in _ (by omega)
  have w5:IntKind.i64.wrap ((k:Int) + 1)=(k:Int) + 1:=IntWalk.i64_in _ (by omega)
  have w6:IntKind.i64.wrap ((k:Int) + 2)=(k:Int) + 2:=IntWalk.i64_in _ (by omega)
  have w7:((k:Int) + 1).toNat=k + 1:=by omega
  have g:win (k:Int) 0 ((b.length:Int) - 1)=true:=by simp only [win,Bool.and_eq_true,decide_eq_true_eq]; omega
  refine X1 x_s_EucSign.eq_1 w1 ?_
  refine C4 (c_s_l1In _ _ _) g (List.getElem?_eq_getElem hk) eb w3 ?_
  cases q:decide (((byteN (b.drop k) 0:Nat):Int) < 128)
  ·have h1:¬ byteN (b.drop ((k:Nat):Int).toNat) 0 < 128:=by rw [Int.toNat_natCast]; simp only [decide_eq_false_iff_not] at q; omega
   cases q2:decide ((k:Int) + 1≥(b.length:Int))
   ·have h3:(k:Int) + 1 < b.length:=by simp only [decide_eq_false_iff_not] at q2; omega
    have hk1:k + 1 < b.length:=by omega
    have eb1:b[k + 1].toNat=byteN (b.drop k) 1:=byteN_drop (j:=1) hk1
    try simp -implicitDefEqProofs (maxSteps:=1000000) only [go_sem,q,q2,List.getElem?_eq_getElem hk,eb,w3,w5,w7,List.getElem?_eq_getElem hk1,eb1,w4]
    repeat refine ⟨sc,?_⟩
    try exact sf
    refine .of (c_s_PairSign _ _ (by omega)) ?_
    try simp -implicitDefEqProofs (maxSteps:=1000000) only [go_sem]
    repeat refine ⟨sc,?_⟩
    try exact sf
    cases q3:(pairSign ((byteN (b.drop k) 0:Nat):Int) ((byteN (b.drop k) 1:Nat):Int)).2
    ·have e:=euc_bad hi h1 q3
     exact F2 q3 e
    ·have e:=euc_two hi h1 h3 q3
     exact F3 q3 e w6
   ·have e:=euc_end hi h1 (by simp only [decide_eq_true_eq] at q2; omega)
    try simp -implicitDefEqProofs (maxSteps:=1000000) only [go_sem,q,q2,List.getElem?_eq_getElem hk,eb,w3,w5,e]
    repeat refine ⟨sc,?_⟩
    try exact sf
  ·have e:=euc_one hi (by rw [Int.toNat_natCast]; simp only [decide_eq_true_eq] at q; omega)
   try simp -implicitDefEqProofs (maxSteps:=1000000) only [go_sem,q,List.getElem?_eq_getElem hk,eb,w3,w5,e]
   repeat refine ⟨sc,?_⟩
   try exact sf
 ·have e:=euc_no hi
  have g:win i 0 ((b.length:Int) - 1)=false:=by
   simp only [win,Bool.and_eq_false_imp,decide_eq_true_eq,decide_eq_false_iff_not]
   omega
  refine X1 x_s_EucSign.eq_1 w1 ?_
  exact D2 (c_s_l1In _ _ _) g e
def x_l_heldMarkS_2:XCode:=.seq (.q [.m 30 0,.m 31 5,.x 32 3 30 31,.f 33 32 2,.l 34 33,.m 35 1,.b 36 .neq 34 35]
 (.c 36 (.q [.i 4 (-1)]
 .ret)))
 (.reg [.m 37 1,.B 38 .add 37 1,.m 1 38])
def x_l_heldMarkS_1:XCode:=.seq (.q [.m 21 0,.m 22 5,.x 23 3 21 22,.f 24 23 1,.l 25 24,.m 26 1,.b 27 .neq 25 26]
 (.c 27 (.q [.i 4 (-1)]
 .ret)))
 (.q [.m 28 1,.B 29 .add 28 1,.m 1 29]
 x_l_heldMarkS_2)
def x_l_heldMarkS:FnX:=⟨40,[.tmp 4],
  .q [.i 4 0]
 (.seq (.q [.i 5 0]
 (.block 0 (.loop [0,1,5] (.seq (.q [.m 6 5,.m 7 0,.n 8 7,.b 9 .lss 6 8]
 (.cond 9 .skip (.exit 0)))
 (.seq (.block 1 (.seq (.q [.m 12 0,.m 13 5,.x 14 3 12 13,.f 15 14 0,.l 16 15,.m 17 1,.b 18 .neq 16 17]
 (.c 18 (.q [.i 4 (-1)]
 .ret)))
 (.q [.m 19 1,.B 20 .add 19 1,.m 1 20]
 x_l_heldMarkS_1)))
 (.reg [.m 10 5,.B 11 .add 10 1,.m 5 11]))))))
 (.norm [1] (.q [.m 39 1,.m 4 39]
 .ret)))⟩
theorem r_l_heldMarkS {Te:TE}:C_l_heldMarkS (RF Te x_l_heldMarkS):=by
 intro n k hl hk
 refine run0 ?_
 simp -implicitDefEqProofs (maxSteps:=1000000) (disch:=omega) only [x_l_heldMarkS,go_sem,IntWalk.i64_in]
 refine loop_of (σ:=Nat) (fun i=>⟨[(0,.one (.ro 3 ((marks 3 mkMark n k).map MarkV.row))),(1,.one (.pv (.int .i64 (k + (3 * i:Nat))))),(5,.one (.pv (.int .i64 i)))],[],[(0,[slT false 3 MarkV.row (marks 3 mkMark n k)]),(1,[iT k])]⟩) (fun i=>i≤n) (fun i=>n - i) 0 ?_ (Nat.zero_le _) ?_
 ·simp -implicitDefEqProofs (maxSteps:=1000000) only [go_sem]; simp
 ·intro i hi
  simp -implicitDefEqProofs (maxSteps:=1000000) only [go_sem,marks_length]
  refine ⟨fun h=>?_,fun h=>?_⟩
  ·have hi':i < n:=by simp only [decide_eq_true_eq] at h; omega
   try simp -implicitDefEqProofs (maxSteps:=1000000) (disch:=omega) only [go_sem,marks_get 3 mkMark k hi',IntWalk.i64_in,mkMark,bne_self_eq_false,decide_true,Bool.not_true]
   simp -implicitDefEqProofs (maxSteps:=1000000) (disch:=omega) only [x_l_heldMarkS_1,go_sem,marks_get 3 mkMark k hi',IntWalk.i64_in,mkMark,bne_self_eq_false,decide_true,Bool.not_true]
   simp -implicitDefEqProofs (maxSteps:=1000000) (disch:=omega) only [x_l_heldMarkS_2,go_sem,marks_get 3 mkMark k hi',IntWalk.i64_in,mkMark,bne_self_eq_false,decide_true,Bool.not_true]
   refine ⟨i + 1,?_,hi',by omega⟩
   rw [show k + ((3 * (i + 1):Nat):Int)=k + (3 * i:Nat) + 1 + 1 + 1 by omega]
   rfl
  ·have:i=n:=by simp only [decide_eq_false_iff_not] at h; omega
   subst this
   simp -implicitDefEqProofs (maxSteps:=1000000) only [go_sem]
def x_l_szTab:FnX:=⟨18,[.tmp 4],
  .q [.v 2 0,.i 4 0]
 (.q [.f 5 2 0,.l 6 5,.m 7 1,.c 8 359 [6,7],.m 1 8]
 (.seq (.q [.m 9 1,.B 10 .lss 9 0]
 (.c 10 (.q [.i 4 (-1)]
 .ret)))
 (.q [.f 11 2 2,.l 12 11,.m 13 1,.c 14 360 [12,13],.m 1 14]
 (.seq (.q [.m 15 1,.B 16 .lss 15 0]
 (.c 16 (.q [.i 4 (-1)]
 .ret)))
 (.q [.m 17 1,.m 4 17]
 .ret)))))⟩
theorem r_l_szTab {Te:TE} (c_l_szRowS:C_l_szRowS Te) (c_l_szMarkS:C_l_szMarkS Te):C_l_szTab (RF Te x_l_szTab):=by
 intro x k hx hk
 refine run0 ?_
 obtain ⟨h0,h1⟩:=hx
 simp -implicitDefEqProofs (maxSteps:=1000000) (disch:=omega) only [x_l_szTab,go_sem,IntWalk.i64_in]
 refine .of (c_l_szRowS _ _ hk h0.1 h0.2) ?_
 simp -implicitDefEqProofs (maxSteps:=1000000) (disch:=omega) only [go_sem,IntWalk.i64_in]
 refine ⟨fun q0=>?_,fun q0=>?_⟩
 ·simp only [decide_eq_true_eq] at q0
  simp only [szTab,szAll,if_pos q0]
 ·simp only [decide_eq_false_iff_not] at q0
  have k1:0≤(szSl szRow x.Rows k)∧(szSl szRow x.Rows k)≤2 ^ 48:=⟨by omega,Int.le_trans ((Sane.sl szRow_sane _) _ hk.1) hk.2⟩
  refine .of (c_l_szMarkS _ _ h1 k1) ?_
  simp -implicitDefEqProofs (maxSteps:=1000000) (disch:=omega) only [go_sem,IntWalk.i64_in]
  refine ⟨fun q1=>?_,fun q1=>?_⟩
  ·simp only [decide_eq_true_eq] at q1
   simp only [szTab,szAll,if_neg q0,if_pos q1]
  ·simp only [decide_eq_false_iff_not] at q1
   have k2:0≤(left ((szSl szRow x.Rows k) - (x.Marks.length:Nat)))∧(left ((szSl szRow x.Rows k) - (x.Marks.length:Nat)))≤2 ^ 48:=⟨by omega,Int.le_trans (Sane.left _ _ k1.1) k1.2⟩
   simp only [szTab,szAll,if_neg q0,if_neg q1]
def x_l_toTab:FnX:=⟨16,[.cell 2 (some 3)],
  .q [.v 1 0,.op 2 (.alloc [.nils 7,.i 0,.nils 3])]
 (.q [.op 3 (.alloc [.nils 7,.i 0,.nils 3])]
 (.q [.f 4 1 0,.l 5 4,.c 6 363 [5],.f 7 3 0,.s 100001 1 7 6]
 (.q [.f 8 1 1,.l 9 8,.f 10 3 1,.s 100002 1 10 9]
 (.q [.f 11 1 2,.l 12 11,.c 13 364 [12],.f 14 3 2,.s 100003 1 14 13]
 (.q [.L 15 3 3,.s 100004 3 2 15]
 .ret)))))⟩
theorem r_l_toTab {Te:TE} (c_l_toRowS:C_l_toRowS Te) (c_l_toMarkS:C_l_toMarkS Te):C_l_toTab (RF Te x_l_toTab):=by
 intro x hx
 refine run0 ?_
 obtain ⟨h0,h1⟩:=hx
 simp -implicitDefEqProofs (maxSteps:=1000000) only [x_l_toTab,go_sem]
 refine C0 (c_l_toRowS _ h0) ?_
 exact D0 (c_l_toMarkS _ (Nat.le_trans h1 (by decide)))
def x_l_eqTab:FnX:=⟨22,[.tmp 4],
  .q [.v 2 0,.v 3 1,.F 4]
 (.seq (.q [.f 5 2 0,.l 6 5,.f 7 3 0,.l 8 7,.c 9 367 [6,8],.N 10 9]
 (.c 10 (.q [.F 4]
 .ret)))
 (.seq (.q [.f 11 2 1,.l 12 11,.f 13 3 1,.l 14 13,.b 15 .neq 12 14]
 (.c 15 (.q [.F 4]
 .ret)))
 (.seq (.q [.f 16 2 2,.l 17 16,.f 18 3 2,.l 19 18,.c 20 368 [17,19],.N 21 20]
 (.c 21 (.q [.F 4]
 .ret)))
 (.q [.T 4]
 .ret))))⟩
theorem r_l_eqTab {Te:TE} (c_l_eqRowS:C_l_eqRowS Te) (c_l_eqMarkS:C_l_eqMarkS Te):C_l_eqTab (RF Te x_l_eqTab):=by
 intro x y hx
 refine run0 ?_
 obtain ⟨h0,h1⟩:=hx
 have key:(x=y)↔x.Rows=y.Rows∧x.Phase=y.Phase∧x.Marks=y.Marks:=by cases x; cases y; simp
 simp only [key]
 clear key
 simp -implicitDefEqProofs (maxSteps:=1000000) only [x_l_eqTab,go_sem]
 refine .of (c_l_eqRowS _ _ h0) ?_
 simp -implicitDefEqProofs (maxSteps:=1000000) only [go_sem]
 refine ⟨fun q=>?_,fun q=>?_⟩
 ·have n0:¬ (x.Rows=y.Rows):=by simpa using q
  simp only [n0,false_and,and_false,true_and,decide_false]
 have e0:x.Rows=y.Rows:=by simpa using q
 clear q
 refine ⟨fun q=>?_,fun q=>?_⟩
 ·have n1:¬ (x.Phase=y.Phase):=by simpa using q
  simp only [e0,n1,false_and,and_false,true_and,decide_false]
 have e1:x.Phase=y.Phase:=by simpa using q
 clear q
 refine .of (c_l_eqMarkS _ _ (Nat.le_trans h1 (by decide))) ?_
 simp -implicitDefEqProofs (maxSteps:=1000000) only [go_sem]
 refine ⟨fun q=>?_,fun q=>?_⟩
 ·have n2:¬ (x.Marks=y.Marks):=by simpa using q
  simp only [e0,e1,n2,false_and,and_false,true_and,decide_false]
 have e2:x.Marks=y.Marks:=by simpa using q
 clear q
 simp only [e0,e1,e2,true_and,and_true,decide_true]
def x_l_szStore:FnX:=⟨18,[.tmp 4],
  .q [.v 2 0,.i 4 0]
 (.q [.f 5 2 0,.L 6 4 5,.m 7 1,.c 8 341 [6,7],.m 1 8]
 (.seq (.q [.m 9 1,.B 10 .lss 9 0]
 (.c 10 (.q [.i 4 (-1)]
 .ret)))
 (.q [.f 11 2 4,.L 12 3 11,.m 13 1,.c 14 342 [12,13],.m 1 14]
 (.seq (.q [.m 15 1,.B 16 .lss 15 0]
 (.c 16 (.q [.i 4 (-1)]
 .ret)))
 (.q [.m 17 1,.m 4 17]
 .ret)))))⟩
theorem r_l_szStore {Te:TE} (c_l_szDev:C_l_szDev Te) (c_l_szTab:C_l_szTab Te):C_l_szStore (RF Te x_l_szStore):=by
 intro x k hx hk
 refine run0 ?_
 obtain ⟨h0,h1⟩:=hx
 simp -implicitDefEqProofs (maxSteps:=1000000) (disch:=omega) only [x_l_szStore,go_sem,IntWalk.i64_in]
 refine .of (c_l_szDev _ _ h0 hk) ?_
 simp -implicitDefEqProofs (maxSteps:=1000000) (disch:=omega) only [go_sem,IntWalk.i64_in]
 refine ⟨fun q0=>?_,fun q0=>?_⟩
 ·simp only [decide_eq_true_eq] at q0
  simp only [szStore,szAll,if_pos q0]
 ·simp only [decide_eq_false_iff_not] at q0
  have k1:0≤(szDev x.D k)∧(szDev x.D k)≤2 ^ 48:=⟨by omega,Int.le_trans ((szDev_sane _) _ hk.1) hk.2⟩
  refine .of (c_l_szTab _ _ h1 k1) ?_
  simp -implicitDefEqProofs (maxSteps:=1000000) (disch:=omega) only [go_sem,IntWalk.i64_in]
  refine ⟨fun q1=>?_,fun q1=>?_⟩
  ·simp only [decide_eq_true_eq] at q1
   simp only [szStore,szAll,if_neg q0,if_pos q1]
  ·simp only [decide_eq_false_iff_not] at q1
   have k2:0≤(szTab x.T (szDev x.D k))∧(szTab x.T (szDev x.D k))≤2 ^ 48:=⟨by omega,Int.le_trans ((szTab_sane _) _ k1.1) k1.2⟩
   simp only [szStore,szAll,if_neg q0,if_neg q1]
def x_i_RecsOf:FnX:=⟨45,[.tmp 2],
  .q [.v 1 0,.op 2 (.mv (.k (.one (.nils 13))))]
 (.q [.f 8 1 1,.l 9 8,.op 10 (.build [.i 0,.e,.i 0,.nils 1,.i 0,.nils 1,.i 0,.F,.e,.i 0,.i 0,.i 0,.i 0] [(0,1,(.i 3)),(9,1,(.t 9))]),.op 11 (.bslice 13 [(.t 10)]),.m 3 11]
 (.seq (.q [.f 12 1 0,.l 13 12,.n 14 13,.i 15 0]
 (.block 0 (.loop [1,3,13,14,15] (.q [.b 16 .lss 15 14]
 (.seq (.cond 16 .skip (.exit 0))
 (.seq (.block 1 (.q [.x 17 7 13 15,.L 18 7 17,.op 5 (.alloc [.e,.i 0,.nils 1,.i 0,.nils 1,.i 0,.F]),.s 100001 7 5 18]
 (.reg [.m 19 3,.L 20 7 5,.c 21 252 [20],.op 22 (.build [.i 0,.e,.i 0,.nils 1,.i 0,.nils 1,.i 0,.F,.e,.i 0,.i 0,.i 0,.i 0] [(0,1,(.i 1)),(1,7,(.t 21))]),.op 23 (.bslice 13 [(.t 22)]),.op 24 (.app 13 152 (.t 19) (.t 23)),.m 3 24])))
 (.reg [.B 25 .add 15 1,.m 15 25])))))))
 (.norm [1,3] (.seq (.q [.f 26 1 2,.l 27 26,.n 28 27,.i 29 0]
 (.block 2 (.loop [3,27,28,29] (.q [.b 30 .lss 29 28]
 (.seq (.cond 30 .skip (.exit 2))
 (.seq (.block 3 (.q [.x 31 3 27 29,.L 32 3 31,.op 7 (.alloc [.i 0,.i 0,.i 0]),.s 100002 3 7 32]
 (.reg [.m 33 3,.f 34 7 0,.l 35 34,.f 36 7 1,.l 37 36,.f 38 7 2,.l 39 38,.op 40 (.build [.i 0,.e,.i 0,.nils 1,.i 0,.nils 1,.i 0,.F,.e,.i 0,.i 0,.i 0,.i 0] [(0,1,(.i 4)),(10,1,(.t 35)),(11,1,(.t 37)),(12,1,(.t 39))]),.op 41 (.bslice 13 [(.t 40)]),.op 42 (.app 13 152 (.t 33) (.t 41)),.m 3 42])))
 (.reg [.B 43 .add 29 1,.m 29 43])))))))
 (.norm [3] (.q [.m 44 3,.m 2 44]
 .ret))))))⟩
theorem r_i_RecsOf {Te:TE} (c_i_copyRow:C_i_copyRow Te):C_i_RecsOf (RF Te x_i_RecsOf):=by
 intro t h
 obtain ⟨⟨hR,hRl⟩,hM⟩:=h
 refine X0 x_i_RecsOf.eq_1 ?_
 refine loop_of (σ:=Nat×List RecV) (fun x=>⟨[(1,.bp 1 0),(3,.one (.rf 46 0 [] 13 0 x.2.length)),(13,.one (.ro 7 (t.Rows.map (RowV.enc false)))),(14,.one (.pv (.int .i64 t.Rows.length))),(15,.one (.pv (.int .i64 x.1)))],[(1,[.ro 7 (t.Rows.map (RowV.enc false)),.pv (.int .i64 t.Phase),.ro 3 (t.Marks.map MarkV.row)])],[(0,t.enc false),(46,[slT true 13 (RecV.enc true) x.2])]⟩) (fun x=>x.1≤t.Rows.length∧x.2.length=x.1 + 1∧x.2=recPhase t.Phase::(t.Rows.take x.1).map recRow) (fun x=>t.Rows.length - x.1) (0,[recPhase t.Phase]) ?_ ⟨Nat.zero_le _,rfl,rfl⟩ ?_
 ·simp -implicitDefEqProofs (maxSteps:=1000000) only [go_sem]
  try rfl
 ·rintro ⟨i,a⟩ ⟨hi,hl,he⟩
  simp only at hi hl he
  cases q:decide ((i:Int) < (t.Rows.length:Int))
  ·have k0:i=t.Rows.length:=by simp only [decide_eq_false_iff_not] at q; omega
   rw [k0,List.take_length] at he
   refine G1 q ?_
   refine loop_of (σ:=Nat×List RecV) (fun x=>⟨[(3,.one (.rf 46 0 [] 13 0 x.2.length)),(27,.one (.ro 3 (t.Marks.map MarkV.row))),(28,.one (.pv (.int .i64 t.Marks.length))),(29,.one (.pv (.int .i64 x.1)))],[],[(0,t.enc false),(46,[slT true 13 (RecV.enc true) x.2])]⟩) (fun x=>x.1≤t.Marks.length∧x.2.length=t.Rows.length + x.1 + 1∧x.2=recPhase t.Phase::(t.Rows.map recRow++(t.Marks.take x.1).map recMark)) (fun x=>t.Marks.length - x.1) (0,a) ?_ ⟨Nat.zero_le _,by simp only; omega,by simp only [List.take_zero,List.map_nil,List.append_nil]; exact he⟩ ?_
   ·simp -implicitDefEqProofs (maxSteps:=1000000) only [go_sem]
    try rfl
   ·rintro ⟨j,b⟩ ⟨hj,hbl,hbe⟩
    simp only at hj hbl hbe
    cases q2:decide ((j:Int) < (t.Marks.length:Int))
    ·have k2:j=t.Marks.length:=by simp only [decide_eq_false_iff_not] at q2; omega
     rw [k2,List.take_length] at hbe
     have e9:recsOf t=b:=hbe.symm
     have e8:List.take b.length (List.map (RecV.enc true) b)=List.map (RecV.enc true) b:=List.take_of_length_le (by simp)
     exact F3 q2 e9 e8
    ·have k2:j < t.Marks.length:=by simp only [decide_eq_true_eq] at q2; omega
     have ea:List.map (RecV.enc true) b++[[iT 4,sT ⟨#[]⟩,iT 0,Tr.sl true 1 () [],iT 0,Tr.sl true 1 () [],iT 0,bT false,sT ⟨#[]⟩,iT 0,iT t.Marks[j].Who,iT t.Marks[j].Seq,iT t.Marks[j].Code]]=List.map (RecV.enc true) (b++[recMark t.Marks[j]]):=by rw [List.map_append]; rfl
     have et:List.take b.length (List.map (RecV.enc true) b)=List.map (RecV.enc true) b:=List.take_of_length_le (by simp)
     refine G4 q2 (List.getElem?_eq_getElem k2) et ea ?_
     refine ⟨(j + 1,b++[recMark t.Marks[j]]),?_,⟨k2,?_,?_⟩,?_⟩
     ·rw [IntWalk.i64_in _ (by omega)]
      simp only [List.length_append]
      rfl
     ·simp only [List.length_append,List.length_cons,List.length_nil]; omega
     ·rw [hbe,recs_marks k2]
     ·simp only; omega
  ·have k1:i < t.Rows.length:=by simp only [decide_eq_true_eq] at q; omega
   have ea:List.map (RecV.enc true) a++[[iT 1,sT t.Rows[i].Key,iT t.Rows[i].Old.Tag,slT true 1 uR t.Rows[i].Old.B,iT t.Rows[i].New.Tag,slT true 1 uR t.Rows[i].New.B,iT t.Rows[i].Has,bT t.Rows[i].Aside,sT ⟨#[]⟩,iT 0,iT 0,iT 0,iT 0]]=List.map (RecV.enc true) (a++[recRow t.Rows[i]]):=by rw [List.map_append]; rfl
   have et:List.take a.length (List.map (RecV.enc true) a)=List.map (RecV.enc true) a:=List.take_of_length_le (by simp)
   refine G2 q (List.getElem?_eq_getElem k1) ?_
   refine C2 (c_i_copyRow t.Rows[i] (hRl _ (List.getElem_mem k1))) et ea ?_
   refine ⟨(i + 1,a++[recRow t.Rows[i]]),?_,⟨k1,?_,?_⟩,?_⟩
   ·rw [IntWalk.i64_in _ (by omega)]
    simp only [List.length_append]
    rfl
   ·simp only [List.length_append,List.length_cons,List.length_nil]; omega
   ·rw [he,recs_rows k1]
   ·simp only; omega
def x_l_eqClient:FnX:=⟨32,[.tmp 4],
  .q [.v 2 0,.v 3 1,.F 4]
 (.seq (.q [.f 5 2 0,.l 6 5,.f 7 3 0,.l 8 7,.b 9 .neq 6 8]
 (.c 9 (.q [.F 4]
 .ret)))
 (.seq (.q [.f 10 2 1,.l 11 10,.f 12 3 1,.l 13 12,.b 14 .neq 11 13]
 (.c 14 (.q [.F 4]
 .ret)))
 (.seq (.q [.f 15 2 2,.l 16 15,.f 17 3 2,.l 18 17,.op 19 (.beq true (.t 16) (.t 18))]
 (.c 19 (.q [.F 4]
 .ret)))
 (.seq (.q [.f 20 2 3,.L 21 8 20,.f 22 3 3,.L 23 8 22,.c 24 227 [21,23],.N 25 24]
 (.c 25 (.q [.F 4]
 .ret)))
 (.seq (.q [.f 26 2 11,.l 27 26,.f 28 3 11,.l 29 28,.c 30 299 [27,29],.N 31 30]
 (.c 31 (.q [.F 4]
 .ret)))
 (.q [.T 4]
 .ret))))))⟩
theorem r_l_eqClient {Te:TE} (c_l_eqMsg:C_l_eqMsg Te) (c_l_eqDoneS:C_l_eqDoneS Te):C_l_eqClient (RF Te x_l_eqClient):=by
 intro x y hx
 refine run0 ?_
 have h0:=hx
 have key:(x=y)↔x.Id=y.Id∧x.Seq=y.Seq∧x.Busy=y.Busy∧x.M=y.M∧x.Dones=y.Dones:=by cases x; cases y; simp
 simp only [key]
 clear key
 simp -implicitDefEqProofs (maxSteps:=1000000) only [x_l_eqClient,go_sem]
 refine ⟨fun q=>?_,fun q=>?_⟩
 ·have n0:¬ (x.Id=y.Id):=by simpa using q
  simp only [n0,false_and,and_false,true_and,decide_false]
 have e0:x.Id=y.Id:=by simpa using q
 clear q
 refine ⟨fun q=>?_,fun q=>?_⟩
 ·have n1:¬ (x.Seq=y.Seq):=by simpa using q
  simp only [e0,n1,false_and,and_false,true_and,decide_false]
 have e1:x.Seq=y.Seq:=by simpa using q
 clear q
 refine ⟨fun q=>?_,fun q=>?_⟩
 ·have n2:¬ (x.Busy=y.Busy):=by simpa using q
  simp only [e0,e1,n2,false_and,and_false,true_and,decide_false]
 have e2:x.Busy=y.Busy:=by simpa using q
 clear q
 refine .of (c_l_eqMsg _ _) ?_
 simp -implicitDefEqProofs (maxSteps:=1000000) only [go_sem]
 refine ⟨fun q=>?_,fun q=>?_⟩
 ·have n3:¬ (x.M=y.M):=by simpa using q
  simp only [e0,e1,e2,n3,false_and,and_false,true_and,decide_false]
 have e3:x.M=y.M:=by simpa using q
 clear q
 refine .of (c_l_eqDoneS _ _ h0) ?_
 simp -implicitDefEqProofs (maxSteps:=1000000) only [go_sem]
 refine ⟨fun q=>?_,fun q=>?_⟩
 ·have n4:¬ (x.Dones=y.Dones):=by simpa using q
  simp only [e0,e1,e2,e3,n4,false_and,and_false,true_and,decide_false]
 have e4:x.Dones=y.Dones:=by simpa using q
 clear q
 simp only [e0,e1,e2,e3,e4,true_and,and_true,decide_true]
def x_i_GetSign:FnX:=⟨35,[.tmp 4,.tmp 5,.tmp 6],
  .q [.i 4 0,.i 5 0,.F 6]
 (.seq (.q [.m 9 1,.B 10 .lss 9 0,.m 11 10,.z 11 (.m 12 1),.z 11 (.m 13 0),.z 11 (.n 14 13),.z 11 (.b 15 .geq 12 14),.r 16 11 15]
 (.c 16 (.q [.i 4 0,.i 5 0,.F 6]
 .ret)))
 (.q [.m 18 0,.m 19 1,.op 20 (.slice 1 (.t 18) (some (.t 19)) none),.c 21 323 [20],.m 17 21,.e 22 17 0,.e 23 17 1,.m 7 22,.m 8 23]
 (.seq (.q [.m 24 7,.op 25 (.bin .eql (.t 24) (.k (.one (.pv (.int .i32 65533))))),.m 26 25,.y 26 (.m 27 8),.y 26 (.B 28 .lss 27 2),.a 29 26 28]
 (.c 29 (.q [.i 4 0,.i 5 0,.F 6]
 .ret)))
 (.q [.m 30 7,.op 31 (.conv (.int .i64) (.t 30)),.m 32 1,.m 33 8,.b 34 .add 32 33,.m 4 31,.m 5 34,.T 6]
 .ret))))⟩
theorem r_i_GetSign {Te:TE} (c_u_DecodeRune:C_u_DecodeRune Te):C_i_GetSign (RF Te x_i_GetSign):=by
 intro b i hb
 refine run0 ?_
 cases q1:decide (i < 0)
 ·cases q2:decide (i≥b.length)
  ·have hi:0≤i∧i < b.length:=by simp only [decide_eq_false_iff_not] at q1 q2; omega
   have hne:b.drop i.toNat≠[]:=by
    intro e
    have:=congrArg List.length e
    rw [List.length_drop] at this
    simp only [List.length_nil] at this
    omega
   simp -implicitDefEqProofs (maxSteps:=1000000) only [x_i_GetSign,go_sem,q1,q2,drop_map_take]
   repeat refine ⟨sc,?_⟩
   try exact sf
   refine C0 (c_u_DecodeRune (b.drop i.toNat) hne) ?_
   have hw:=Lib.decodeL_width (b.drop i.toNat)
   have hc:=decodeL_bound (b.drop i.toNat)
   have hl:=Lib.decodeL_le (b.drop i.toNat) hne
   have hld:(b.drop i.toNat).length≤b.length:=by rw [List.length_drop]; omega
   by_cases hd:(Lib.decodeL (b.drop i.toNat)).1=65533∧(Lib.decodeL (b.drop i.toNat)).2=1
   ·have e1:((((Lib.decodeL (b.drop i.toNat)).1:Nat):Int)==65533)=true:=by rw [hd.1]; rfl
    have e2:decide ((((Lib.decodeL (b.drop i.toNat)).2:Nat):Int) < 2)=true:=by rw [hd.2]; rfl
    have e:=getSign_bad hi (show signAt _=none from if_pos hd)
    exact F3 e1 e2 e
   ·have e:=getSign_good hi (show signAt _=some _ from if_neg hd)
    have w1:IntKind.i64.wrap (((Lib.decodeL (b.drop i.toNat)).1:Nat):Int)=((Lib.decodeL (b.drop i.toNat)).1:Nat):=IntWalk.i64_in _ (by omega)
    have w2:IntKind.i64.wrap (i + (((Lib.decodeL (b.drop i.toNat)).2:Nat):Int))=i + ((Lib.decodeL (b.drop i.toNat)).2:Nat):=IntWalk.i64_in _ (by omega)
    cases e1:((((Lib.decodeL (b.drop i.toNat)).1:Nat):Int)==65533)
    ·exact F4 e1 e w1 w2
    ·have e2:decide ((((Lib.decodeL (b.drop i.toNat)).2:Nat):Int) < 2)=false:=by
      refine decide_eq_false fun q=>hd ⟨?_,by omega⟩
      have:=eq_of_beq e1
      omega
     try simp -implicitDefEqProofs (maxSteps:=1000000) only [go_sem,e1,e2,e,w1,w2]
     repeat refine ⟨sc,?_⟩
     try exact sf
  ·have e:=getSign_no (b:=b) (i:=i) (by simp only [decide_eq_true_eq] at q2; omega)
   simp -implicitDefEqProofs (maxSteps:=1000000) only [x_i_GetSign,go_sem,q1,q2,e]
   repeat refine ⟨sc,?_⟩
   try exact sf
 ·have e:=getSign_no (b:=b) (i:=i) (by simp only [decide_eq_true_eq] at q1; omega)
  simp -implicitDefEqProofs (maxSteps:=1000000) only [x_i_GetSign,go_sem,q1,e]
  repeat refine ⟨sc,?_⟩
  try exact sf
def x_l_szBoolS:FnX:=⟨12,[.tmp 4],
  .q [.i 4 0]
 (.q [.m 5 1,.m 6 0,.n 7 6,.b 8 .sub 5 7,.m 1 8]
 (.seq (.q [.m 9 1,.B 10 .lss 9 0]
 (.c 10 (.q [.i 4 (-1)]
 .ret)))
 (.q [.m 11 1,.m 4 11]
 .ret)))⟩
theorem r_l_szBoolS {Te:TE}:C_l_szBoolS (RF Te x_l_szBoolS):=by
 intro l k hl hk
 refine run0 ?_
 simp -implicitDefEqProofs (maxSteps:=1000000) (disch:=omega) only [x_l_szBoolS,go_sem,IntWalk.i64_in]
 refine ⟨fun h=>?_,fun h=>?_⟩
 ·simp only [decide_eq_true_eq] at h
  simp only [left,if_pos h]
 ·simp only [decide_eq_false_iff_not] at h
  simp only [left,if_neg h]
def x_l_toBoolS:FnX:=⟨22,[.tmp 2],
  .q [.op 2 (.mv (.k (.one (.nils 1))))]
 (.q [.m 5 0,.n 6 5,.op 7 (.mks 1 1 [.pv (.bool false)] (.t 6)),.m 3 7]
 (.seq (.q [.i 4 0]
 (.block 0 (.loop [0,3,4] (.seq (.q [.m 8 4,.m 9 0,.n 10 9,.b 11 .lss 8 10]
 (.cond 11 .skip (.exit 0)))
 (.seq (.block 1 (.reg [.m 14 3,.m 15 4,.m 16 0,.m 17 4,.x 18 1 16 17,.l 19 18,.x 20 1 14 15,.s 100001 1 20 19]))
 (.reg [.m 12 4,.B 13 .add 12 1,.m 4 13]))))))
 (.norm [3] (.q [.m 21 3,.m 2 21]
 .ret))))⟩
theorem r_l_toBoolS {Te:TE}:C_l_toBoolS (RF Te x_l_toBoolS):=by
 intro l hl
 refine run0 ?_
 simp -implicitDefEqProofs (maxSteps:=1000000) (disch:=omega) only [x_l_toBoolS,go_sem,IntWalk.i64_in]
 refine ⟨⟨by simp only [decide_eq_true_eq]; omega,by simp only [decide_eq_true_eq]; omega⟩,?_⟩
 refine loop_of (σ:=Nat) (fun i=>⟨[(0,.one (.ro 1 (l.map bR))),(3,.one (.rf 23 0 [] 1 0 l.length)),(4,.one (.pv (.int .i64 i)))],[],
  [(0,[slT false 1 bR l]),(23,[.sl true 1 () ((l.take i).map bR++List.replicate (l.length - i) [.pv (.bool false)])])]⟩) (fun i=>i≤l.length) (fun i=>l.length - i) 0 ?_ (Nat.zero_le _) ?_
 ·simp -implicitDefEqProofs (maxSteps:=1000000) only [go_sem]; rfl
 ·intro i hi
  simp -implicitDefEqProofs (maxSteps:=1000000) only [go_sem]
  refine ⟨fun h=>?_,fun h=>?_⟩
  ·have hi':i < l.length:=by simp only [decide_eq_true_eq] at h; omega
   simp -implicitDefEqProofs (maxSteps:=1000000) only [go_sem,List.getElem?_eq_getElem hi',fill_len bR l [.pv (.bool false)] hi,storeAp,setCells,List.getD_eq_getElem?_getD,fill_get bR l [.pv (.bool false)] hi']
   repeat (first | refine ⟨by decide,?_⟩ | refine ⟨by simpa using hi',?_⟩)
   refine ⟨i + 1,?_,hi',by omega⟩
   rw [← fill_set bR l [.pv (.bool false)] hi',IntWalk.i64_in _ (by omega)]
   rfl
  ·have:i=l.length:=by simp only [decide_eq_false_iff_not] at h; omega
   subst this
   simp -implicitDefEqProofs (maxSteps:=1000000) only [go_sem,fill_len bR l [.pv (.bool false)] hi,fill_end]
   refine ⟨by simp,?_⟩
   simp [take_map]
def x_l_eqBoolS:FnX:=⟨26,[.tmp 4],
  .q [.F 4]
 (.seq (.q [.m 6 0,.n 7 6,.m 8 1,.n 9 8,.b 10 .neq 7 9]
 (.c 10 (.q [.F 4]
 .ret)))
 (.seq (.q [.i 5 0]
 (.block 0 (.loop [0,1,5] (.seq (.q [.m 11 5,.m 12 0,.n 13 12,.b 14 .lss 11 13]
 (.cond 14 .skip (.exit 0)))
 (.seq (.block 1 (.seq (.draw [.m 17 0,.m 18 5,.x 19 1 17 18,.l 20 19,.m 21 1,.m 22 5,.x 23 1 21 22,.l 24 23,.op 25 (.beq true (.t 20) (.t 24))] [[],[],[0,1],[2],[],[],[4,5],[6],[3,7]])
 (.c 25 (.q [.F 4]
 .ret))))
 (.reg [.m 15 5,.B 16 .add 15 1,.m 5 16]))))))
 (.norm [] (.q [.T 4]
 .ret))))⟩
theorem r_l_eqBoolS {Te:TE}:C_l_eqBoolS (RF Te x_l_eqBoolS):=by
 intro l m hl
 refine run0 ?_
 simp -implicitDefEqProofs (maxSteps:=1000000) (disch:=omega) only [x_l_eqBoolS,go_sem,IntWalk.i64_in]
 refine ⟨fun h=>?_,fun h=>?_⟩
 ·have:l≠m:=fun e=>by simp [e] at h
  simp [this]
 ·have hlen:l.length=m.length:=by simp at h; omega
  refine loop_of (σ:=Nat) (fun i=>⟨[(0,.one (.ro 1 (l.map bR))),(1,.one (.ro 1 (m.map bR))),(5,.one (.pv (.int .i64 i)))],[],[(0,[slT false 1 bR l]),(1,[slT false 1 bR m])]⟩) (fun i=>i≤l.length∧l.take i=m.take i) (fun i=>l.length - i) 0 ?_ ⟨Nat.zero_le _,by simp⟩ ?_
  ·simp -implicitDefEqProofs (maxSteps:=1000000) only [go_sem]; rfl
  ·intro i ⟨hi,hs⟩
   simp -implicitDefEqProofs (maxSteps:=1000000) only [go_sem]
   refine ⟨fun h=>?_,fun h=>?_⟩
   ·have hi':i < l.length:=by simp only [decide_eq_true_eq] at h; omega
    have hj':i < m.length:=by omega
    simp -implicitDefEqProofs (maxSteps:=1000000) only [go_sem,List.getElem?_eq_getElem hi',List.getElem?_eq_getElem hj']
    refine ⟨by decide,fun h2=>?_,fun h2=>?_⟩
    ·have:l≠m:=fun e=>by subst e; simp at h2
     simp [this]
    ·refine ⟨i + 1,by rw [IntWalk.i64_in _ (by omega)]; rfl,⟨hi',same_step hi' hj' hs ?_⟩,by omega⟩
     simpa using h2
   ·have hle:l.length≤i:=by simp only [decide_eq_false_iff_not] at h; omega
    have:l=m:=same_end hle (by omega) hs
    simp [this]
def x_l_markBoolS:FnX:=⟨21,[.tmp 4],
  .q [.i 4 0]
 (.seq (.q [.i 5 0]
 (.block 0 (.loop [0,1,5] (.seq (.q [.m 6 5,.m 7 0,.n 8 7,.b 9 .lss 6 8]
 (.cond 9 .skip (.exit 0)))
 (.seq (.block 1 (.q [.m 12 0,.m 13 5,.m 14 1,.B 15 .rem 14 3,.B 16 .eql 15 0,.x 17 1 12 13,.s 100001 1 17 16]
 (.reg [.m 18 1,.B 19 .add 18 1,.m 1 19])))
 (.reg [.m 10 5,.B 11 .add 10 1,.m 5 11]))))))
 (.norm [1] (.q [.m 20 1,.m 4 20]
 .ret)))⟩
theorem r_l_markBoolS {Te:TE}:C_l_markBoolS (RF Te x_l_markBoolS):=by
 intro l k hl hk
 refine run0 ?_
 simp -implicitDefEqProofs (maxSteps:=1000000) (disch:=omega) only [x_l_markBoolS,go_sem,IntWalk.i64_in]
 refine loop_of (σ:=Nat) (fun i=>⟨[(0,.one (.rf 0 0 [] 1 0 l.length)),(1,.one (.pv (.int .i64 (k + (1 * i:Nat))))),(5,.one (.pv (.int .i64 i)))],[],[(0,[.sl true 1 () ((marks 1 mkB i k).map bR++(l.drop i).map bR)]),(1,[iT k])]⟩) (fun i=>i≤l.length) (fun i=>l.length - i) 0 ?_ (Nat.zero_le _) ?_
 ·simp -implicitDefEqProofs (maxSteps:=1000000) only [go_sem]; simp [marks]
 ·intro i hi
  simp -implicitDefEqProofs (maxSteps:=1000000) only [go_sem]
  refine ⟨fun h=>?_,fun h=>?_⟩
  ·have hi':i < l.length:=by simp only [decide_eq_true_eq] at h; omega
   try simp -implicitDefEqProofs (maxSteps:=1000000) (disch:=omega) only [go_sem,storeAp,setCells,List.length_set,List.set_set,mark_len bR 1 mkB l k hi,List.getD_eq_getElem?_getD,mark_get bR 1 mkB l k hi',mark_reget bR 1 mkB l k hi',Option.getD_some,IntWalk.i64_in]
   repeat (first | refine ⟨by decide,?_⟩ | refine ⟨decide_eq_true hi',?_⟩)
   refine ⟨i + 1,?_,hi',by omega⟩
   rw [← mark_set bR 1 mkB l k hi',show k + ((1 * (i + 1):Nat):Int)=k + (1 * i:Nat) + 1 by omega]
   rfl
  ·have:i=l.length:=by simp only [decide_eq_false_iff_not] at h; omega
   subst this
   simp -implicitDefEqProofs (maxSteps:=1000000) only [go_sem,mark_end]
def x_l_heldBoolS:FnX:=⟨23,[.tmp 4],
  .q [.i 4 0]
 (.seq (.q [.i 5 0]
 (.block 0 (.loop [0,1,5] (.seq (.q [.m 6 5,.m 7 0,.n 8 7,.b 9 .lss 6 8]
 (.cond 9 .skip (.exit 0)))
 (.seq (.block 1 (.seq (.q [.m 12 0,.m 13 5,.x 14 1 12 13,.l 15 14,.m 16 1,.B 17 .rem 16 3,.B 18 .eql 17 0,.op 19 (.beq true (.t 15) (.t 18))]
 (.c 19 (.q [.i 4 (-1)]
 .ret)))
 (.reg [.m 20 1,.B 21 .add 20 1,.m 1 21])))
 (.reg [.m 10 5,.B 11 .add 10 1,.m 5 11]))))))
 (.norm [1] (.q [.m 22 1,.m 4 22]
 .ret)))⟩
theorem r_l_heldBoolS {Te:TE}:C_l_heldBoolS (RF Te x_l_heldBoolS):=by
 intro n k hl hk
 refine run0 ?_
 simp -implicitDefEqProofs (maxSteps:=1000000) (disch:=omega) only [x_l_heldBoolS,go_sem,IntWalk.i64_in]
 refine loop_of (σ:=Nat) (fun i=>⟨[(0,.one (.ro 1 ((marks 1 mkB n k).map bR))),(1,.one (.pv (.int .i64 (k + (1 * i:Nat))))),(5,.one (.pv (.int .i64 i)))],[],[(0,[slT false 1 bR (marks 1 mkB n k)]),(1,[iT k])]⟩) (fun i=>i≤n) (fun i=>n - i) 0 ?_ (Nat.zero_le _) ?_
 ·simp -implicitDefEqProofs (maxSteps:=1000000) only [go_sem]; simp
 ·intro i hi
  simp -implicitDefEqProofs (maxSteps:=1000000) only [go_sem,marks_length]
  refine ⟨fun h=>?_,fun h=>?_⟩
  ·have hi':i < n:=by simp only [decide_eq_true_eq] at h; omega
   try simp -implicitDefEqProofs (maxSteps:=1000000) (disch:=omega) only [go_sem,marks_get 1 mkB k hi',IntWalk.i64_in,mkB,bne_self_eq_false,decide_true,Bool.not_true]
   refine ⟨i + 1,?_,hi',by omega⟩
   rw [show k + ((1 * (i + 1):Nat):Int)=k + (1 * i:Nat) + 1 by omega]
   rfl
  ·have:i=n:=by simp only [decide_eq_false_iff_not] at h; omega
   subst this
   simp -implicitDefEqProofs (maxSteps:=1000000) only [go_sem]
def x_l_szStringS:FnX:=⟨28,[.tmp 4],
  .q [.i 4 0]
 (.q [.m 6 1,.m 7 0,.n 8 7,.b 9 .sub 6 8,.m 1 9]
 (.seq (.q [.m 10 1,.B 11 .lss 10 0]
 (.c 11 (.q [.i 4 (-1)]
 .ret)))
 (.seq (.q [.i 5 0]
 (.block 0 (.loop [0,1,5] (.seq (.q [.m 12 5,.m 13 0,.n 14 13,.b 15 .lss 12 14]
 (.cond 15 .skip (.exit 0)))
 (.seq (.block 1 (.q [.m 18 1,.m 19 0,.m 20 5,.x 21 1 19 20,.l 22 21,.op 23 (.slen (.t 22)),.b 24 .sub 18 23,.m 1 24]
 (.q [.m 25 1,.B 26 .lss 25 0]
 (.c 26 (.q [.i 4 (-1)]
 .ret)))))
 (.reg [.m 16 5,.B 17 .add 16 1,.m 5 17]))))))
 (.norm [1] (.q [.m 27 1,.m 4 27]
 .ret)))))⟩
theorem r_l_szStringS {Te:TE}:C_l_szStringS (RF Te x_l_szStringS):=by
 intro l k hk hl hs
 refine run0 ?_
 simp -implicitDefEqProofs (maxSteps:=1000000) (disch:=omega) only [x_l_szStringS,go_sem,IntWalk.i64_in]
 refine ⟨fun h=>?_,fun h=>?_⟩
 ·simp only [decide_eq_true_eq] at h
  simp only [szSl,szAll,if_pos h]
 ·simp only [decide_eq_false_iff_not] at h
  refine loop_of (σ:=Nat×Int) (fun x=>⟨[(0,.one (.ro 1 (l.map sR))),(1,.one (.pv (.int .i64 x.2))),(5,.one (.pv (.int .i64 x.1)))],[],[(0,[slT false 1 sR l]),(1,[iT k])]⟩) (fun x=>x.1≤l.length∧0≤x.2∧x.2≤k∧szSl szStr l k=szAll ((l.drop x.1).map szStr) x.2) (fun x=>l.length - x.1) (0,k - l.length) ?_ ⟨Nat.zero_le _,by omega,by omega,by simp only [szSl,szAll,if_neg h,List.drop_zero]⟩ ?_
  ·simp -implicitDefEqProofs (maxSteps:=1000000) only [go_sem]; rfl
  ·rintro ⟨i,c⟩ ⟨hi,h0,h1,he⟩
   simp only at hi h0 h1 he
   simp -implicitDefEqProofs (maxSteps:=1000000) only [go_sem]
   refine ⟨fun h=>?_,fun h=>?_⟩
   ·have hi':i < l.length:=by simp only [decide_eq_true_eq] at h; omega
    have hsz:=hs l[i] (List.getElem_mem hi')
    rw [List.drop_eq_getElem_cons hi'] at he
    simp -implicitDefEqProofs (maxSteps:=1000000) (disch:=omega) only [go_sem,List.getElem?_eq_getElem hi',IntWalk.i64_in]
    refine ⟨fun h2=>?_,fun h2=>?_⟩
    ·simp only [decide_eq_true_eq] at h2
     rw [he]
     simp only [List.map_cons,szAll,szStr,left,if_pos h2,show (-1:Int) < 0 by decide,if_true]
    ·simp only [decide_eq_false_iff_not] at h2
     refine ⟨(i + 1,c - (l[i]).size),rfl,⟨hi',by omega,by simp only; omega,?_⟩,by simp only; omega⟩
     rw [he]
     simp only [List.map_cons,szAll,szStr,left,if_neg h2]
   ·have hle:l.length≤i:=by simp only [decide_eq_false_iff_not] at h; omega
    rw [List.drop_of_length_le hle] at he
    simp only [szAll,List.map_nil] at he
    rw [he]
def x_l_toStringS:FnX:=⟨22,[.tmp 2],
  .q [.op 2 (.mv (.k (.one (.nils 1))))]
 (.q [.m 5 0,.n 6 5,.op 7 (.mks 1 16 [.pv (.string ⟨#[]⟩)] (.t 6)),.m 3 7]
 (.seq (.q [.i 4 0]
 (.block 0 (.loop [0,3,4] (.seq (.q [.m 8 4,.m 9 0,.n 10 9,.b 11 .lss 8 10]
 (.cond 11 .skip (.exit 0)))
 (.seq (.block 1 (.reg [.m 14 3,.m 15 4,.m 16 0,.m 17 4,.x 18 1 16 17,.l 19 18,.x 20 1 14 15,.s 100001 1 20 19]))
 (.reg [.m 12 4,.B 13 .add 12 1,.m 4 13]))))))
 (.norm [3] (.q [.m 21 3,.m 2 21]
 .ret))))⟩
theorem r_l_toStringS {Te:TE}:C_l_toStringS (RF Te x_l_toStringS):=by
 intro l hl
 refine run0 ?_
 simp -implicitDefEqProofs (maxSteps:=1000000) (disch:=omega) only [x_l_toStringS,go_sem,IntWalk.i64_in]
 refine ⟨⟨by simp only [decide_eq_true_eq]; omega,by simp only [decide_eq_true_eq]; omega⟩,?_⟩
 refine loop_of (σ:=Nat) (fun i=>⟨[(0,.one (.ro 1 (l.map sR))),(3,.one (.rf 23 0 [] 1 0 l.length)),(4,.one (.pv (.int .i64 i)))],[],
  [(0,[slT false 1 sR l]),(23,[.sl true 1 () ((l.take i).map sR++List.replicate (l.length - i) [.pv (.string ⟨#[]⟩)])])]⟩) (fun i=>i≤l.length) (fun i=>l.length - i) 0 ?_ (Nat.zero_le _) ?_
 ·simp -implicitDefEqProofs (maxSteps:=1000000) only [go_sem]; rfl
 ·intro i hi
  simp -implicitDefEqProofs (maxSteps:=1000000) only [go_sem]
  refine ⟨fun h=>?_,fun h=>?_⟩
  ·have hi':i < l.length:=by simp only [decide_eq_true_eq] at h; omega
   simp -implicitDefEqProofs (maxSteps:=1000000) only [go_sem,List.getElem?_eq_getElem hi',fill_len sR l [.pv (.string ⟨#[]⟩)] hi,storeAp,setCells,List.getD_eq_getElem?_getD,fill_get sR l [.pv (.string ⟨#[]⟩)] hi']
   repeat (first | refine ⟨by decide,?_⟩ | refine ⟨by simpa using hi',?_⟩)
   refine ⟨i + 1,?_,hi',by omega⟩
   rw [← fill_set sR l [.pv (.string ⟨#[]⟩)] hi',IntWalk.i64_in _ (by omega)]
   rfl
  ·have:i=l.length:=by simp only [decide_eq_false_iff_not] at h; omega
   subst this
   simp -implicitDefEqProofs (maxSteps:=1000000) only [go_sem,fill_len sR l [.pv (.string ⟨#[]⟩)] hi,fill_end]
   refine ⟨by simp,?_⟩
   simp [take_map]
def x_l_eqStringS:FnX:=⟨26,[.tmp 4],
  .q [.F 4]
 (.seq (.q [.m 6 0,.n 7 6,.m 8 1,.n 9 8,.b 10 .neq 7 9]
 (.c 10 (.q [.F 4]
 .ret)))
 (.seq (.q [.i 5 0]
 (.block 0 (.loop [0,1,5] (.seq (.q [.m 11 5,.m 12 0,.n 13 12,.b 14 .lss 11 13]
 (.cond 14 .skip (.exit 0)))
 (.seq (.block 1 (.seq (.draw [.m 17 0,.m 18 5,.x 19 1 17 18,.l 20 19,.m 21 1,.m 22 5,.x 23 1 21 22,.l 24 23,.b 25 .neq 20 24] [[],[],[0,1],[2],[],[],[4,5],[6],[3,7]])
 (.c 25 (.q [.F 4]
 .ret))))
 (.reg [.m 15 5,.B 16 .add 15 1,.m 5 16]))))))
 (.norm [] (.q [.T 4]
 .ret))))⟩
theorem r_l_eqStringS {Te:TE}:C_l_eqStringS (RF Te x_l_eqStringS):=by
 intro l m hl
 refine run0 ?_
 simp -implicitDefEqProofs (maxSteps:=1000000) (disch:=omega) only [x_l_eqStringS,go_sem,IntWalk.i64_in]
 refine ⟨fun h=>?_,fun h=>?_⟩
 ·have:l≠m:=fun e=>by simp [e] at h
  simp [this]
 ·have hlen:l.length=m.length:=by simp at h; omega
  refine loop_of (σ:=Nat) (fun i=>⟨[(0,.one (.ro 1 (l.map sR))),(1,.one (.ro 1 (m.map sR))),(5,.one (.pv (.int .i64 i)))],[],[(0,[slT false 1 sR l]),(1,[slT false 1 sR m])]⟩) (fun i=>i≤l.length∧l.take i=m.take i) (fun i=>l.length - i) 0 ?_ ⟨Nat.zero_le _,by simp⟩ ?_
  ·simp -implicitDefEqProofs (maxSteps:=1000000) only [go_sem]; rfl
  ·intro i ⟨hi,hs⟩
   simp -implicitDefEqProofs (maxSteps:=1000000) only [go_sem]
   refine ⟨fun h=>?_,fun h=>?_⟩
   ·have hi':i < l.length:=by simp only [decide_eq_true_eq] at h; omega
    have hj':i < m.length:=by omega
    simp -implicitDefEqProofs (maxSteps:=1000000) only [go_sem,List.getElem?_eq_getElem hi',List.getElem?_eq_getElem hj']
    refine ⟨by decide,fun h2=>?_,fun h2=>?_⟩
    ·have:l≠m:=fun e=>by subst e; simp at h2
     simp [this]
    ·refine ⟨i + 1,by rw [IntWalk.i64_in _ (by omega)]; rfl,⟨hi',same_step hi' hj' hs ?_⟩,by omega⟩
     simpa using h2
   ·have hle:l.length≤i:=by simp only [decide_eq_false_iff_not] at h; omega
    have:l=m:=same_end hle (by omega) hs
    simp [this]
end Go.X

