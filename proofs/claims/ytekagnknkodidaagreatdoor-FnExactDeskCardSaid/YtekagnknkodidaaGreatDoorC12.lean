/- Texts: CVe_3 CVzf_5 CVj_4 CVzf_4 CVm CVb_2 CVze CVk_2 CVla_2 CK CVx_2. -/
import Derived.Test.YtekagnknkodidaaGreatDoorC04
set_option linter.unusedVariables false
set_option linter.unusedSimpArgs false
namespace Go.X
set_option maxRecDepth 100000
set_option maxHeartbeats 8000000
def x_s_RowOk:FnX:=⟨106,[.tmp 2],
  .q [.v 1 0,.F 2]
 (.seq (.q [.f 7 1 0,.l 8 7,.c 9 137 [8],.N 10 9,.m 11 10,.z 11 (.f 12 1 5),.z 11 (.l 13 12),.z 11 (.op 14 (.call 42 [0,0,0] [(.t 13),(.i 1),(.i 3)])),.z 11 (.N 15 14),.r 16 11 15,.m 17 16,.z 17 (.L 18 7 1),.z 17 (.c 19 191 [18]),.z 17 (.N 20 19),.z 17 (.m 21 20),.y 21 (.f 22 1 1),.y 21 (.L 23 2 22),.y 21 (.c 24 214 [23]),.y 21 (.N 25 24),.z 17 (.a 26 21 25),.r 27 17 26,.m 28 27,.z 28 (.L 29 7 1),.z 28 (.c 30 177 [29]),.z 28 (.N 31 30),.z 28 (.m 32 31),.y 32 (.f 33 1 3),.y 32 (.L 34 2 33),.y 32 (.c 35 214 [34]),.y 32 (.N 36 35),.z 28 (.a 37 32 36),.r 38 28 37]
 (.c 38 (.q [.F 2]
 .ret)))
 (.q [.f 40 1 1,.L 41 2 40,.c 42 178 [41],.m 39 42,.e 43 39 0,.e 44 39 1,.m 3 43,.m 4 44]
 (.q [.f 46 1 3,.L 47 2 46,.c 48 178 [47],.m 45 48,.e 49 45 0,.e 50 45 1,.m 5 49,.m 6 50]
 (.seq (.block 0 (.q [.L 52 7 1,.c 53 191 [52],.m 54 53,.y 54 (.f 55 1 1),.y 54 (.f 56 55 0),.y 54 (.l 57 56),.y 54 (.op 58 (.call 42 [0,0,0] [(.t 57),(.i 1),(.i 5)])),.y 54 (.N 59 58),.y 54 (.m 60 59),.z 60 (.f 61 1 1),.z 60 (.L 62 2 61),.z 60 (.c 63 215 [62]),.z 60 (.N 64 63),.y 54 (.r 65 60 64),.a 66 54 65,.m 51 66]
 (.cond 51 (.q [.F 2]
 .ret) (.q [.L 68 7 1,.c 69 177 [68],.m 70 69,.y 70 (.f 71 1 3),.y 70 (.f 72 71 0),.y 70 (.l 73 72),.y 70 (.B 74 .neq 73 0),.y 70 (.m 75 74),.z 75 (.m 76 6),.z 75 (.N 77 76),.y 70 (.r 78 75 77),.a 79 70 78,.m 67 79]
 (.cond 67 (.q [.F 2]
 .ret) (.q [.L 81 7 1,.c 82 191 [81],.m 83 82,.y 83 (.m 84 4),.y 83 (.N 85 84),.a 86 83 85,.m 87 86,.y 87 (.f 88 1 6),.y 87 (.l 89 88),.y 87 (.N 90 89),.y 87 (.m 91 90),.z 91 (.L 92 7 1),.z 91 (.c 93 177 [92]),.y 87 (.r 94 91 93),.a 95 87 94,.m 80 95]
 (.c 80 (.q [.F 2]
 .ret))))))))
 (.q [.f 96 1 5,.l 97 96,.B 98 .neq 97 3,.m 99 98,.z 99 (.f 100 1 1),.z 99 (.L 101 2 100),.z 99 (.f 102 1 3),.z 99 (.L 103 2 102),.z 99 (.c 104 216 [101,103]),.r 105 99 104,.m 2 105]
 .ret)))))⟩
theorem r_s_RowOk {Te:TE} (c_s_NameOk:C_s_NameOk Te) (c_s_l1In:C_s_l1In Te) (c_s_l9Old:C_s_l9Old Te) (c_s_l9None:C_s_l9None Te) (c_s_l9New:C_s_l9New Te) (c_s_CellText:C_s_CellText Te) (c_s_CellOk:C_s_CellOk Te) (c_s_SameText:C_s_SameText Te):C_s_RowOk (RF Te x_s_RowOk):=by
 intro r h
 obtain ⟨hk,_⟩:=h
 refine X0 x_s_RowOk.eq_1 ?_
 refine C0 (c_s_NameOk r.Key hk) ?_
 cases g1:nameOk r.Key
 ·have e:=rowOk_name (r:=r) g1
  exact F1 e
 refine G0 ?_
 refine C0 (c_s_l1In _ _ _) ?_
 cases g2:win r.Has 1 3
 ·have e:=rowOk_has (r:=r) g2
  exact F1 e
 have h3:=win13 g2
 obtain ⟨key,old,new,has,aside⟩:=r
 simp only at h3 g1 hk
 clear g2
 rcases h3 with rfl | rfl | rfl
 ·skip
  have e:=rowOk_1 (o:=old) (n:=new) (a:=aside) g1
  refine G0 ?_
  refine C0 (c_s_l9Old ⟨key,old,new,1,aside⟩ (by simp)) ?_
  refine C0 (c_s_l9New ⟨key,old,new,1,aside⟩ (by simp)) ?_
  refine C0 (c_s_l9None new) ?_
  cases n1:new.no
  ·exact F2 n1 e
  refine G1 n1 ?_
  refine C0 (c_s_CellText old) ?_
  refine C0 (c_s_CellText new) ?_
  refine C0 (c_s_l9Old ⟨key,old,new,1,aside⟩ (by simp)) ?_
  refine C0 (c_s_l1In _ _ _) ?_
  cases w:win old.Tag 1 5
  ·have e2:=tag_no w
   exact F3 w e e2
  have t:=tag_yes w
  refine G1 w ?_
  refine C0 (c_s_CellOk old) ?_
  cases o1:old.ok
  ·exact F2 o1 e
  refine G1 o1 ?_
  refine C0 (c_s_l9New ⟨key,old,new,1,aside⟩ (by simp)) ?_
  refine C0 (c_s_l9Old ⟨key,old,new,1,aside⟩ (by simp)) ?_
  cases o3:old.text.2
  ·cases aside
   ·exact F4 o3 e o1 t
   ·refine G1 o3 ?_
    refine .of (c_s_l9New ⟨key,old,new,1,true⟩ (by simp)) ?_
    try simp -implicitDefEqProofs (maxSteps:=1000000) only [go_sem,e,o1,t,o3,n1]
    repeat refine ⟨sc,?_⟩
    try exact sf
  ·try simp -implicitDefEqProofs (maxSteps:=1000000) only [go_sem,o3,e,o1,t,n1]
   repeat refine ⟨sc,?_⟩
   try exact sf
 ·skip
  have e:=rowOk_2 (o:=old) (n:=new) (a:=aside) g1
  refine G0 ?_
  refine C0 (c_s_l9Old ⟨key,old,new,2,aside⟩ (by simp)) ?_
  refine C0 (c_s_l9None old) ?_
  cases o1:old.no
  ·exact F2 o1 e
  refine G1 o1 ?_
  refine C0 (c_s_l9New ⟨key,old,new,2,aside⟩ (by simp)) ?_
  refine C0 (c_s_CellText old) ?_
  refine C0 (c_s_CellText new) ?_
  refine C0 (c_s_l9Old ⟨key,old,new,2,aside⟩ (by simp)) ?_
  refine C0 (c_s_l9New ⟨key,old,new,2,aside⟩ (by simp)) ?_
  cases n1:(new.Tag==0)
  ·have n1':(new.Tag != 0)=true:=by rw [bne,n1]; rfl
   exact F3 n1' e n1
  have n1':(new.Tag != 0)=false:=by rw [bne,n1]; rfl
  cases n2:new.text.2
  ·exact F3 n1' n2 e
  refine G2 n1' n2 ?_
  exact D4 (c_s_l9Old ⟨key,old,new,2,aside⟩ (by simp)) e o1 n1 n2
 ·skip
  have e:=rowOk_3 (o:=old) (n:=new) (a:=aside) g1
  refine G0 ?_
  refine C0 (c_s_l9Old ⟨key,old,new,3,aside⟩ (by simp)) ?_
  refine C0 (c_s_l9New ⟨key,old,new,3,aside⟩ (by simp)) ?_
  refine C0 (c_s_CellText old) ?_
  refine C0 (c_s_CellText new) ?_
  refine C0 (c_s_l9Old ⟨key,old,new,3,aside⟩ (by simp)) ?_
  refine C0 (c_s_l1In _ _ _) ?_
  cases w:win old.Tag 1 5
  ·have e2:=tag_no w
   exact F3 w e e2
  have t:=tag_yes w
  refine G1 w ?_
  refine C0 (c_s_CellOk old) ?_
  cases o1:old.ok
  ·exact F2 o1 e
  refine G1 o1 ?_
  refine C0 (c_s_l9New ⟨key,old,new,3,aside⟩ (by simp)) ?_
  cases n1:(new.Tag==0)
  ·have n1':(new.Tag != 0)=true:=by rw [bne,n1]; rfl
   exact F3 n1' e n1
  have n1':(new.Tag != 0)=false:=by rw [bne,n1]; rfl
  cases n2:new.text.2
  ·exact F3 n1' n2 e
  refine G2 n1' n2 ?_
  refine C0 (c_s_l9Old ⟨key,old,new,3,aside⟩ (by simp)) ?_
  cases o3:old.text.2
  ·cases aside
   ·exact F4 o3 e o1 t
   ·refine G1 o3 ?_
    exact D2 (c_s_l9New ⟨key,old,new,3,true⟩ (by simp)) e o3
  refine G1 o3 ?_
  refine .of (c_s_SameText old new) ?_
  try simp -implicitDefEqProofs (maxSteps:=1000000) only [go_sem,e,o1,t,o3,n1,n2]
  repeat refine ⟨sc,?_⟩
  try exact sf
def x_i_Desk:FnX:=⟨119,[.cell 4 (some 10),.tmp 5,.tmp 6],
  .q [.v 2 0,.v 3 1,.op 4 (.alloc [.nils 1,.nils 2,.i 0,.F,.nils 7,.i 0,.nils 3,.i 0,.i 0,.i 0]),.op 5 (.mv (.k (.one (.nils 8)))),.op 6 (.mv (.k (.one (.nils 6))))]
 (.q [.L 10 10 2,.c 11 28 [10],.op 7 (.alloc [.nils 1,.nils 2,.i 0,.F,.nils 7,.i 0,.nils 3,.i 0,.i 0,.i 0]),.s 100001 10 7 11]
 (.seq (.q [.L 12 10 2,.L 13 8 3,.c 14 29 [12,13],.N 15 14]
 (.c 15 (.q [.L 16 10 7,.s 100002 10 4 16,.op 5 (.mv (.k (.one (.nils 8)))),.op 6 (.mv (.k (.one (.nils 6))))]
 .ret)))
 (.q [.f 17 3 2,.l 18 17,.f 19 3 1,.l 20 19,.f 21 3 3,.l 22 21,.op 23 (.build [.i 0,.i 0,.i 0,.i 0,.e,.e,.i 0,.i 0] [(1,1,(.t 18)),(2,1,(.t 20)),(3,1,(.t 22))]),.op 8 (.alloc [.i 0,.i 0,.i 0,.i 0,.e,.e,.i 0,.i 0]),.s 100003 8 8 23]
 (.q [.T 9]
 (.seq (.block 0 (.q [.f 25 3 0,.l 26 25,.B 27 .eql 26 1,.m 24 27]
 (.cond 24 (.q [.f 28 8 0,⟨none,none,100004,.store 1 (.t 28) (.i 2)⟩]
 (.reg [.L 30 10 2,.f 31 3 4,.l 32 31,.c 33 30 [30,32],.m 29 33,.e 34 29 0,.e 35 29 1,.f 36 8 5,.s 100005 1 36 34,.f 37 8 7,.s 100006 1 37 35])) (.q [.f 39 3 0,.l 40 39,.B 41 .eql 40 3,.m 42 41,.z 42 (.f 43 3 0),.z 42 (.l 44 43),.z 42 (.B 45 .eql 44 4),.r 46 42 45,.m 38 46]
 (.cond 38 (.q [.L 47 10 2,.L 48 8 3,.L 49 8 8,.c 50 31 [47,48,49],.e 51 50 0,.e 52 50 1,.e 53 50 2,.s 100007 10 4 51,.m 5 52,.m 6 53]
 .ret) (.q [.f 55 3 0,.l 56 55,.B 57 .eql 56 6,.m 58 57,.y 58 (.f 59 3 1),.y 58 (.l 60 59),.y 58 (.B 61 .eql 60 0),.a 62 58 61,.m 54 62]
 (.cond 54 (.q [.L 64 10 2,.f 65 3 6,.l 66 65,.c 67 32 [64,66],.m 63 67,.e 68 63 0,.e 69 63 1,.s 100008 10 7 68,.m 9 69]
 (.draw [.f 70 3 6,.l 71 70,.f 72 8 0,⟨none,none,100009,.store 1 (.t 72) (.i 7)⟩,.f 73 8 6,.s 100010 1 73 71] [[],[0],[],[2],[0,1,2,3],[4,1,3,0,1,2,3]])) (.q [.f 75 3 0,.l 76 75,.B 77 .eql 76 8,.m 78 77,.y 78 (.f 79 3 1),.y 78 (.l 80 79),.y 78 (.B 81 .eql 80 0),.a 82 78 81,.m 83 82,.y 83 (.f 84 3 6),.y 83 (.l 85 84),.y 83 (.f 86 2 0),.y 83 (.f 87 86 4),.y 83 (.f 88 87 1),.y 83 (.l 89 88),.y 83 (.b 90 .eql 85 89),.a 91 83 90,.m 74 91]
 (.cond 74 (.q [.L 93 10 2,.f 94 3 4,.l 95 94,.c 96 33 [93,95],.m 92 96,.e 97 92 0,.e 98 92 1,.e 99 92 2,.e 100 92 3,.s 100011 10 7 97,.f 101 8 4,.s 100012 1 101 98,.f 102 8 7,.s 100013 1 102 99,.m 9 100]
 (.draw [.f 103 3 6,.l 104 103,.f 105 8 0,⟨none,none,100014,.store 1 (.t 105) (.i 9)⟩,.f 106 8 6,.s 100015 1 106 104] [[],[0],[],[2],[0,1,2,3],[4,1,3,0,1,2,3]])) (.reg [.F 9]))))))))))
 (.seq (.q [.m 107 9,.N 108 107,.m 109 108,.z 109 (.f 110 7 0),.z 109 (.f 111 110 0),.z 109 (.f 112 111 3),.z 109 (.l 113 112),.r 114 109 113]
 (.c 114 (.q [.L 115 10 7,.s 100016 10 4 115,.op 5 (.mv (.k (.one (.nils 8)))),.op 6 (.mv (.k (.one (.nils 6))))]
 .ret)))
 (.seq (.draw [.L 116 10 7,.L 117 8 8,.op 118 (.bslice 8 [(.t 117)]),.s 100017 10 4 116,.m 5 118,.op 6 (.mv (.k (.one (.nils 6))))] [[],[],[1],[0,0],[2,3,0,1,2,3],[4,0,1,2,3,4]])
 .ret)))))))⟩
theorem r_i_Desk {Te:TE} (c_i_copyNode:C_i_copyNode Te) (c_i_atDesk:C_i_atDesk Te) (c_i_NodeGet:C_i_NodeGet Te) (c_i_deskChange:C_i_deskChange Te) (c_i_NodePhase:C_i_NodePhase Te) (c_i_NodeStep:C_i_NodeStep Te):C_i_Desk (RF Te x_i_Desk):=by
 intro n m hn hm
 have hL:=hn.len (by decide)
 refine X0 x_i_Desk.eq_1 ?_
 refine C0 (c_i_copyNode n hL) ?_
 refine C0 (c_i_atDesk n m hn) ?_
 cases g:(m.ok&&win m.To 3 4&&n.up)
 ·have e:n.desk m=(n,[],[]):=by rw [NodeV.desk,g]; rfl
  exact F1 e
 have hu:n.up=true:=by simp only [Bool.and_eq_true] at g; exact g.2
 obtain ⟨u1,u2,_⟩:=up_ok hu
 refine G0 ?_
 cases k1:(m.Kind==1)
 rotate_left
 ·have e:n.desk m=(n,[⟨2,m.To,m.From,m.Seq,⟨#[]⟩,(n.get m.Key).1,0,(n.get m.Key).2⟩],[]):=by rw [NodeV.desk,g,k1]; rfl
  refine G1 k1 ?_
  refine C0 (c_i_NodeGet n m.Key (hn.mono (by decide))) ?_
  try simp -implicitDefEqProofs (maxSteps:=1000000) only [go_sem,u2,e,take_all,take_marks,NodeV.enc]
  repeat refine ⟨sc,?_⟩
  try exact sf
  try rfl
 cases k3:(m.Kind==3)
 rotate_left
 ·have e:n.desk m=n.deskPut m (back m 0):=by rw [NodeV.desk,g,k1,k3]; rfl
  refine G2 k1 k3 ?_
  exact D1 (c_i_deskChange n m (back m 0) hn hm) e
 cases k4:(m.Kind==4)
 rotate_left
 ·have e:n.desk m=n.deskPut m (back m 0):=by rw [NodeV.desk,g,k1,k3,k4]; rfl
  refine G3 k1 k3 k4 ?_
  exact D1 (c_i_deskChange n m (back m 0) hn hm) e
 cases f0:(m.From==0)
 ·have e:n.desk m=(n,[],[]):=by rw [NodeV.desk,g,k1,k3,k4,f0]; rfl
  cases k6:(m.Kind==6) <;> cases k8:(m.Kind==8)
  all_goals
   try simp -implicitDefEqProofs (maxSteps:=1000000) only [go_sem,k1,k3,k4,k6,k8,f0,e,take_all,take_marks]
   repeat refine ⟨sc,?_⟩
   try exact sf
   try rfl
 cases k6:(m.Kind==6)
 rotate_left
 ·have e:n.desk m=((n.deskPhase m).1,(n.deskPhase m).2,[]):=by rw [NodeV.desk,g,k1,k3,k4,f0,k6]; rfl
  try simp -implicitDefEqProofs (maxSteps:=1000000) only [go_sem,k1,k3,k4,k6,f0]
  repeat refine ⟨sc,?_⟩
  try exact sf
  refine C0 (c_i_NodePhase n m.N hn) ?_
  cases g1:(n.phase m.N).2
  ·have e2:n.deskPhase m=((n.phase m.N).1,[]):=by rw [NodeV.deskPhase,g1]; rfl
   exact F3 g1 e e2
  cases g2:(n.phase m.N).1.S.D.Down
  ·have e2:n.deskPhase m=((n.phase m.N).1,[⟨7,m.To,m.From,m.Seq,⟨#[]⟩,⟨#[]⟩,m.N,0⟩]):=by rw [NodeV.deskPhase,g1,g2]; rfl
   try simp -implicitDefEqProofs (maxSteps:=1000000) only [go_sem,g1,g2,e,e2,take_all,take_marks,NodeV.enc]
   repeat refine ⟨sc,?_⟩
   try exact sf
   try rfl
  ·have e2:n.deskPhase m=((n.phase m.N).1,[]):=by rw [NodeV.deskPhase,g1,g2]; rfl
   try simp -implicitDefEqProofs (maxSteps:=1000000) only [go_sem,g1,g2,e,e2,take_all,take_marks,NodeV.enc]
   repeat refine ⟨sc,?_⟩
   try exact sf
   try rfl
 cases k8:(m.Kind==8)
 ·have e:n.desk m=(n,[],[]):=by rw [NodeV.desk,g,k1,k3,k4,f0,k6,k8]; rfl
  try simp -implicitDefEqProofs (maxSteps:=1000000) only [go_sem,k1,k3,k4,k6,k8,f0,e,take_all,take_marks]
  repeat refine ⟨sc,?_⟩
  try exact sf
  try rfl
 cases kN:(m.N==n.S.T.Phase)
 ·have e:n.desk m=(n,[],[]):=by rw [NodeV.desk,g,k1,k3,k4,f0,k6,k8,kN]; rfl
  try simp -implicitDefEqProofs (maxSteps:=1000000) only [go_sem,k1,k3,k4,k6,k8,f0,kN,e,take_all,take_marks]
  repeat refine ⟨sc,?_⟩
  try exact sf
  try rfl
 have e:n.desk m=((n.deskStep m).1,(n.deskStep m).2,[]):=by rw [NodeV.desk,g,k1,k3,k4,f0,k6,k8,kN]; rfl
 try simp -implicitDefEqProofs (maxSteps:=1000000) only [go_sem,k1,k3,k4,k6,k8,f0,kN]
 repeat refine ⟨sc,?_⟩
 try exact sf
 refine C0 (c_i_NodeStep n m.Key hn) ?_
 cases g1:(n.step m.Key).2.2.2
 ·have e2:n.deskStep m=((n.step m.Key).1,[]):=by rw [NodeV.deskStep,g1]; rfl
  exact F3 g1 e e2
 ·have g2:=step_up hu g1
  have e2:n.deskStep m=((n.step m.Key).1,[⟨9,m.To,m.From,m.Seq,(n.step m.Key).2.1,⟨#[]⟩,m.N,(n.step m.Key).2.2.1⟩]):=by rw [NodeV.deskStep,g1]; rfl
  try simp -implicitDefEqProofs (maxSteps:=1000000) only [go_sem,g1,g2,e,e2,take_all,take_marks,NodeV.enc]
  repeat refine ⟨sc,?_⟩
  try exact sf
  try rfl
def x_s_PutRec:FnX:=⟨70,[.tmp 6],
  .q [.v 5 2,.op 6 (.mv (.k (.one (.nils 1))))]
 (.seq (.q [.L 8 13 5,.c 9 180 [8],.N 10 9,.m 11 10,.z 11 (.m 12 0),.z 11 (.c 13 43 [12]),.z 11 (.N 14 13),.r 15 11 14,.m 16 15,.z 16 (.m 17 1),.z 16 (.c 18 43 [17]),.z 16 (.N 19 18),.r 20 16 19]
 (.c 20 (.q [.op 21 (.bslice 1 []),.m 6 21]
 .ret)))
 (.seq (.draw [.op 22 (.bslice 1 []),.m 23 0,.c 24 186 [22,23],.m 25 1,.c 26 186 [24,25],.f 27 5 0,.l 28 27,.op 29 (.conv (.int .u8) (.t 28)),.op 30 (.bslice 1 [(.t 29)]),.op 31 (.app 1 1 (.t 26) (.t 30)),.m 7 31] [[],[],[0,1],[],[2,3,2],[],[5],[6],[7],[4,8,4],[9,9,0,1,2,3,4,5,6,7,8,9]])
 (.seq (.q [.f 32 5 0,.l 33 32]
 (.block 0 (.q [.B 35 .eql 33 1,.m 34 35]
 (.cond 34 (.reg [.m 36 7,.f 37 5 1,.L 38 7 37,.c 39 187 [36,38],.m 7 39]) (.q [.B 41 .eql 33 2,.m 40 41]
 (.cond 40 (.reg [.m 42 7,.f 43 5 8,.l 44 43,.c 45 188 [42,44],.m 7 45]) (.q [.B 47 .eql 33 3,.m 46 47]
 (.c 46 (.reg [.m 48 7,.f 49 5 9,.l 50 49,.op 51 (.conv (.int .u8) (.t 50)),.op 52 (.bslice 1 [(.t 51)]),.op 53 (.app 1 1 (.t 48) (.t 52)),.m 7 53])))))))))
 (.seq (.draw [.m 54 7,.f 55 5 10,.l 56 55,.op 57 (.conv (.int .u8) (.t 56)),.f 58 5 12,.l 59 58,.op 60 (.conv (.int .u8) (.t 59)),.op 61 (.bslice 1 [(.t 57),(.t 60)]),.op 62 (.app 1 1 (.t 54) (.t 61)),.f 63 5 11,.l 64 63,.c 65 186 [62,64],.m 7 65] [[],[],[1],[2],[],[4],[5],[3,6],[0,7],[],[9],[8,10,8],[11,11,0,1,2,3,4,5,6,7,8,9,10,11]])
 (.q [.m 66 7,.m 67 7,.c 68 189 [67],.c 69 186 [66,68],.m 6 69]
 .ret)))))⟩
theorem r_s_PutRec {Te:TE} (c_s_RecOk:C_s_RecOk Te) (c_s_l1Word:C_s_l1Word Te) (c_s_PutW:C_s_PutW Te) (c_s_PutRow:C_s_PutRow Te) (c_s_PutText:C_s_PutText Te) (c_s_Sum:C_s_Sum Te):C_s_PutRec (RF Te x_s_PutRec):=by
 intro gen place r h
 have h1:=h.1
 have h2:=h.2
 refine X0 x_s_PutRec.eq_1 ?_
 refine C0 (c_s_RecOk r h) ?_
 cases g1:r.ok
 ·have e:=recNo1 (gen:=gen) (place:=place) g1
  exact F1 e
 refine G0 ?_
 refine C0 (c_s_l1Word _) ?_
 cases g2:win gen 0 65535
 ·have e:=recNo2 (place:=place) (r:=r) g2
  exact F1 e
 refine G0 ?_
 refine C0 (c_s_l1Word _) ?_
 cases g3:win place 0 65535
 ·have e:=recNo3 (gen:=gen) (r:=r) g3
  exact F1 e
 refine G0 ?_
 have ey:=recYes g1 g2 g3
 have lw:(putW (putW [] gen) place).length=4:=by rw [putW_len,putW_len]; rfl
 have t1:=c_s_PutW [] gen (by show 0≤2 ^ 30; decide)
 refine C0 (t1) ?_
 refine .of (c_s_PutW (putW [] gen) place (by rw [putW_len]; show 0 + 2≤2 ^ 30; decide)) ?_
 try simp -implicitDefEqProofs (maxSteps:=1000000) only [go_sem,mkU_wrap,app1B,take1B]
 repeat refine ⟨sc,?_⟩
 try exact sf
 have e1:putW (putW [] gen) place++[mkU r.Kind]=recHead gen place r:=rfl
 have e2:(putW (putW [] gen) place).length + 1=(recHead gen place r).length:=by rw [recHead,List.length_append]; rfl
 simp only [e1,e2]
 have l0:=recHead_len gen place r
 generalize eH:recHead gen place r=H at l0 ⊢
 by_cases q1:r.Kind=1
 ·have k1:(r.Kind==1)=true:=by rw [q1]; rfl
  refine G1 k1 ?_
  refine C0 (c_s_PutRow H r.R (by omega) h1) ?_
  have e3:putRow H r.R=recKind H r:=(if_pos q1).symm
  have l3:=recKind_len H r
  try simp -implicitDefEqProofs (maxSteps:=1000000) only [go_sem,e3,mkU_wrap,app2B,take2B]
  repeat refine ⟨sc,?_⟩
  try exact sf
  have tt:=c_s_PutW (recKind H r++[mkU r.Who,mkU r.Code]) r.Seq (by rw [List.length_append]; simp only [List.length_cons,List.length_nil]; omega)
  have e4:putW (recKind H r++[mkU r.Who,mkU r.Code]) r.Seq=recBody gen place r:=by rw [recBody,eH]
  rw [e4] at tt
  refine C0 (tt) ?_
  have l4:=recBody_len gen place r
  refine C0 (c_s_Sum (recBody gen place r) (by omega)) ?_
  refine .of (c_s_PutW (recBody gen place r) _ (by omega)) ?_
  try simp -implicitDefEqProofs (maxSteps:=1000000) only [go_sem,ey]
  repeat refine ⟨sc,?_⟩
  try exact sf
 by_cases q2:r.Kind=2
 ·have k1:(r.Kind==1)=false:=by rw [q2]; rfl
  have k2:(r.Kind==2)=true:=by rw [q2]; rfl
  refine G2 k1 k2 ?_
  refine C0 (c_s_PutText H r.Key (by omega) h2) ?_
  have e3:putText H r.Key=recKind H r:=by rw [recKind,if_neg q1,if_pos q2]
  have l3:=recKind_len H r
  try simp -implicitDefEqProofs (maxSteps:=1000000) only [go_sem,e3,mkU_wrap,app2B,take2B]
  repeat refine ⟨sc,?_⟩
  try exact sf
  have tt:=c_s_PutW (recKind H r++[mkU r.Who,mkU r.Code]) r.Seq (by rw [List.length_append]; simp only [List.length_cons,List.length_nil]; omega)
  have e4:putW (recKind H r++[mkU r.Who,mkU r.Code]) r.Seq=recBody gen place r:=by rw [recBody,eH]
  rw [e4] at tt
  refine C0 (tt) ?_
  have l4:=recBody_len gen place r
  refine C0 (c_s_Sum (recBody gen place r) (by omega)) ?_
  refine .of (c_s_PutW (recBody gen place r) _ (by omega)) ?_
  try simp -implicitDefEqProofs (maxSteps:=1000000) only [go_sem,ey]
  repeat refine ⟨sc,?_⟩
  try exact sf
 by_cases q3:r.Kind=3
 ·have k1:(r.Kind==1)=false:=by rw [q3]; rfl
  have k2:(r.Kind==2)=false:=by rw [q3]; rfl
  have k3:(r.Kind==3)=true:=by rw [q3]; rfl
  have e3:H++[mkU r.N]=recKind H r:=by rw [recKind,if_neg q1,if_neg q2,if_pos q3]
  have e5:H.length + 1=(recKind H r).length:=by rw [← e3,List.length_append]; rfl
  have l3:=recKind_len H r
  try simp -implicitDefEqProofs (maxSteps:=1000000) only [go_sem,k1,k2,k3,mkU_wrap,app1B,e3,e5,take_rows]
  repeat refine ⟨sc,?_⟩
  try exact sf
  try simp -implicitDefEqProofs (maxSteps:=1000000) only [go_sem,e3,mkU_wrap,app2B,take2B]
  repeat refine ⟨sc,?_⟩
  try exact sf
  have tt:=c_s_PutW (recKind H r++[mkU r.Who,mkU r.Code]) r.Seq (by rw [List.length_append]; simp only [List.length_cons,List.length_nil]; omega)
  have e4:putW (recKind H r++[mkU r.Who,mkU r.Code]) r.Seq=recBody gen place r:=by rw [recBody,eH]
  rw [e4] at tt
  refine C0 (tt) ?_
  have l4:=recBody_len gen place r
  refine C0 (c_s_Sum (recBody gen place r) (by omega)) ?_
  refine .of (c_s_PutW (recBody gen place r) _ (by omega)) ?_
  try simp -implicitDefEqProofs (maxSteps:=1000000) only [go_sem,ey]
  repeat refine ⟨sc,?_⟩
  try exact sf
 obtain ⟨k1,k2,k3⟩:=other3 q1 q2 q3
 refine G3 k1 k2 k3 ?_
 have e3:recKind H r=H:=by rw [recKind,if_neg q1,if_neg q2,if_neg q3]
 try simp -implicitDefEqProofs (maxSteps:=1000000) only [go_sem,mkU_wrap,app2B,take2B]
 repeat refine ⟨sc,?_⟩
 try exact sf
 have tt:=c_s_PutW (H++[mkU r.Who,mkU r.Code]) r.Seq (by rw [List.length_append]; simp only [List.length_cons,List.length_nil]; omega)
 have e4:putW (H++[mkU r.Who,mkU r.Code]) r.Seq=recBody gen place r:=by rw [recBody,eH,e3]
 rw [e4] at tt
 refine C0 (tt) ?_
 have l4:=recBody_len gen place r
 refine C0 (c_s_Sum (recBody gen place r) (by omega)) ?_
 refine .of (c_s_PutW (recBody gen place r) _ (by omega)) ?_
 try simp -implicitDefEqProofs (maxSteps:=1000000) only [go_sem,ey]
 repeat refine ⟨sc,?_⟩
 try exact sf
def x_i_HeadOf:FnX:=⟨22,[.tmp 4],
  .q [.op 4 (.mv (.k (.one (.nils 1))))]
 (.seq (.q [.m 6 0,.op 7 (.call 57 [0,0,0] [(.t 6),(.i 1),(.i 60000)]),.N 8 7,.m 9 8,.z 9 (.m 10 1),.z 9 (.op 11 (.call 57 [0,0,0] [(.t 10),(.i 0),(.i 30)])),.z 9 (.N 12 11),.r 13 9 12]
 (.c 13 (.q [.op 4 (.mv (.k (.one (.nils 1))))]
 .ret)))
 (.q [.m 14 0,.op 15 (.call 208 [0,0] [(.k (.one (.nils 1))),(.t 14)]),.m 16 1,.c 17 208 [15,16],.m 5 17]
 (.q [.m 18 5,.m 19 5,.c 20 211 [19],.c 21 208 [18,20],.m 4 21]
 .ret)))⟩
theorem r_i_HeadOf {Te:TE} (c_i_within:C_i_within Te) (c_i_PutW:C_i_PutW Te) (c_i_Sum:C_i_Sum Te):C_i_HeadOf (RF Te x_i_HeadOf):=by
 intro gen n
 refine X0 x_i_HeadOf.eq_1 ?_
 refine C0 (c_i_within _ _ _) ?_
 cases g1:win gen 1 60000
 ·have e:headOf gen n=[]:=by rw [headOf,headGood,g1]; rfl
  exact F1 e
 refine G0 ?_
 refine C0 (c_i_within _ _ _) ?_
 cases g2:win n 0 30
 ·have e:headOf gen n=[]:=by rw [headOf,headGood,g1,g2]; rfl
  exact F1 e
 refine G0 ?_
 have e:headOf gen n=putW (putW (putW [] gen) n) (sum (putW (putW [] gen) n):Nat):=by rw [headOf,headGood,g1,g2]; rfl
 have l1:(putW (putW [] gen) n).length=4:=by rw [putW_len,putW_len]; rfl
 have t1:=c_i_PutW [] gen (by show 0≤2 ^ 30; decide)
 refine C0 (t1) ?_
 refine C0 (c_i_PutW (putW [] gen) n (by rw [putW_len]; show 0 + 2≤2 ^ 30; decide)) ?_
 refine C0 (c_i_Sum (putW (putW [] gen) n) (by omega)) ?_
 refine .of (c_i_PutW (putW (putW [] gen) n) _ (by omega)) ?_
 try simp -implicitDefEqProofs (maxSteps:=1000000) only [go_sem,e]
 repeat refine ⟨sc,?_⟩
 try exact sf
def x_s_l18Phase:FnX:=⟨34,[.cell 4 (some 10),.tmp 5],
  .q [.v 2 0,.v 3 1,.op 4 (.alloc [.nils 1,.nils 2,.i 0,.F,.nils 7,.i 0,.nils 3,.i 0,.i 0,.i 0]),.op 5 (.mv (.k (.one (.nils 8))))]
 (.q [.L 10 10 2,.f 11 3 6,.l 12 11,.c 13 51 [10,12],.m 9 13,.e 14 9 0,.e 15 9 1,.op 6 (.alloc [.nils 1,.nils 2,.i 0,.F,.nils 7,.i 0,.nils 3,.i 0,.i 0,.i 0]),.s 100001 10 6 14,.m 7 15]
 (.seq (.q [.m 16 7,.N 17 16,.m 18 17,.z 18 (.f 19 6 0),.z 18 (.f 20 19 0),.z 18 (.f 21 20 3),.z 18 (.l 22 21),.r 23 18 22]
 (.c 23 (.q [.L 24 10 6,.op 25 (.bslice 8 []),.s 100002 10 4 24,.m 5 25]
 .ret)))
 (.q [.L 26 8 3,.op 27 (.call 46 [0,0] [(.t 26),(.i 7)]),.op 8 (.alloc [.i 0,.i 0,.i 0,.i 0,.e,.e,.i 0,.i 0]),.s 100003 8 8 27]
 (.q [.f 28 3 6,.l 29 28,.f 30 8 6,.s 100004 1 30 29]
 (.seq (.draw [.L 31 10 6,.L 32 8 8,.op 33 (.bslice 8 [(.t 32)]),.s 100005 10 4 31,.m 5 33] [[],[],[1],[0,0],[2,3,0,1,2,3]])
 .ret)))))⟩
theorem r_s_l18Phase {Te:TE} (c_s_NodePhase:C_s_NodePhase Te) (c_s_l18Back:C_s_l18Back Te):C_s_l18Phase (RF Te x_s_l18Phase):=by
 intro n m hn
 refine X0 x_s_l18Phase.eq_1 ?_
 refine C0 (c_s_NodePhase n m.N hn) ?_
 cases g1:(n.phase m.N).2
 ·have e:n.deskPhase m=((n.phase m.N).1,[]):=by rw [NodeV.deskPhase,g1]; rfl
  exact F2 g1 e
 cases g2:(n.phase m.N).1.S.D.Down
 ·have e:n.deskPhase m=((n.phase m.N).1,[⟨7,m.To,m.From,m.Seq,⟨#[]⟩,⟨#[]⟩,m.N,0⟩]):=by rw [NodeV.deskPhase,g1,g2]; rfl
  refine G2 g1 g2 ?_
  refine .of (c_s_l18Back m 7) ?_
  try simp -implicitDefEqProofs (maxSteps:=1000000) only [go_sem,e,g2,take_all,take_marks,NodeV.enc,StoreV.enc,DevV.enc]
  repeat refine ⟨sc,?_⟩
  try exact sf
  try rfl
 ·have e:n.deskPhase m=((n.phase m.N).1,[]):=by rw [NodeV.deskPhase,g1,g2]; rfl
  try simp -implicitDefEqProofs (maxSteps:=1000000) only [go_sem,g1,g2,e,take_all,take_marks,NodeV.enc,StoreV.enc,DevV.enc]
  repeat refine ⟨sc,?_⟩
  try exact sf
  try rfl
def x_s_l18Step:FnX:=⟨46,[.cell 4 (some 10),.tmp 5],
  .q [.v 2 0,.v 3 1,.op 4 (.alloc [.nils 1,.nils 2,.i 0,.F,.nils 7,.i 0,.nils 3,.i 0,.i 0,.i 0]),.op 5 (.mv (.k (.one (.nils 8))))]
 (.seq (.q [.f 11 3 6,.l 12 11,.f 13 2 0,.f 14 13 4,.f 15 14 1,.l 16 15,.b 17 .neq 12 16]
 (.c 17 (.q [.L 18 10 2,.c 19 22 [18],.op 20 (.bslice 8 []),.s 100001 10 4 19,.m 5 20]
 .ret)))
 (.q [.L 22 10 2,.f 23 3 4,.l 24 23,.c 25 52 [22,24],.m 21 25,.e 26 21 0,.e 27 21 1,.e 28 21 2,.e 29 21 3,.op 6 (.alloc [.nils 1,.nils 2,.i 0,.F,.nils 7,.i 0,.nils 3,.i 0,.i 0,.i 0]),.s 100002 10 6 26,.m 7 27,.m 8 28,.m 9 29]
 (.seq (.q [.m 30 9,.N 31 30]
 (.c 31 (.q [.L 32 10 6,.op 33 (.bslice 8 []),.s 100003 10 4 32,.m 5 33]
 .ret)))
 (.q [.L 34 8 3,.op 35 (.call 46 [0,0] [(.t 34),(.i 9)]),.op 10 (.alloc [.i 0,.i 0,.i 0,.i 0,.e,.e,.i 0,.i 0]),.s 100004 8 10 35]
 (.q [.f 36 3 6,.l 37 36,.f 38 10 6,.s 100005 1 38 37]
 (.q [.m 39 7,.f 40 10 4,.s 100006 1 40 39]
 (.q [.m 41 8,.f 42 10 7,.s 100007 1 42 41]
 (.seq (.draw [.L 43 10 6,.L 44 8 10,.op 45 (.bslice 8 [(.t 44)]),.s 100008 10 4 43,.m 5 45] [[],[],[1],[0,0],[2,3,0,1,2,3]])
 .ret))))))))⟩
theorem r_s_l18Step {Te:TE} (c_s_l15Copy:C_s_l15Copy Te) (c_s_NodeStep:C_s_NodeStep Te) (c_s_l18Back:C_s_l18Back Te):C_s_l18Step (RF Te x_s_l18Step):=by
 intro n m hn
 have hL:=hn.len (by decide)
 cases hp:(m.N==n.S.T.Phase)
 ·have hq:(m.N != n.S.T.Phase)=true:=by rw [bne_neq,hp]; rfl
  have e:n.deskStep0 m=(n,[]):=by rw [NodeV.deskStep0,hp]; rfl
  refine X1 x_s_l18Step.eq_1 hq ?_
  exact D1 (c_s_l15Copy n hL) e
 have hq:(m.N != n.S.T.Phase)=false:=by rw [bne_neq,hp]; rfl
 have e0:n.deskStep0 m=n.deskStep m:=by rw [NodeV.deskStep0,hp]; rfl
 refine X1 x_s_l18Step.eq_1 hq ?_
 refine C0 (c_s_NodeStep n m.Key hn) ?_
 cases g:(n.step m.Key).2.2.2
 ·have e:n.deskStep m=((n.step m.Key).1,[]):=by rw [NodeV.deskStep,g]; rfl
  exact F3 g e0 e
 ·have e:n.deskStep m=((n.step m.Key).1,[⟨9,m.To,m.From,m.Seq,(n.step m.Key).2.1,⟨#[]⟩,m.N,(n.step m.Key).2.2.1⟩]):=by rw [NodeV.deskStep,g]; rfl
  refine G1 g ?_
  exact D2 (c_s_l18Back m 9) e0 e
def x_i_sectorOf:FnX:=⟨11,[.tmp 4],
  .q [.i 4 0]
 (.q [.m 5 0,.B 6 .rem 5 2,.op 7 (.bin .mul (.i 30) (.t 6)),.op 8 (.bin .add (.i 2) (.t 7)),.m 9 1,.b 10 .add 8 9,.m 4 10]
 .ret)⟩
theorem r_i_sectorOf {Te:TE}:C_i_sectorOf (RF Te x_i_sectorOf):=by
 intro gen place
 refine X0 x_i_sectorOf.eq_1 ?_
 try rfl
def x_s_l13At:FnX:=⟨11,[.tmp 4],
  .q [.i 4 0]
 (.q [.m 5 0,.B 6 .rem 5 2,.op 7 (.bin .mul (.i 30) (.t 6)),.op 8 (.bin .add (.i 2) (.t 7)),.m 9 1,.b 10 .add 8 9,.m 4 10]
 .ret)⟩
theorem r_s_l13At {Te:TE}:C_s_l13At (RF Te x_s_l13At):=by
 intro gen place
 refine X0 x_s_l13At.eq_1 ?_
 try rfl
def x_i_laid:FnX:=⟨38,[.cell 6 (some 4)],
  .q [.v 3 0,.op 6 (.alloc [.nils 1,.nils 2,.i 0,.F])]
 (.seq (.q [.m 9 2,.n 10 9,.i 11 0]
 (.block 0 (.loop [1,2,3,6,9,10,11] (.q [.b 12 .lss 11 10]
 (.seq (.cond 12 .skip (.exit 0))
 (.seq (.block 1 (.q [.m 13 11,.x 14 13 9 11,.L 15 13 14,.op 8 (.alloc [.i 0,.e,.i 0,.nils 1,.i 0,.nils 1,.i 0,.F,.e,.i 0,.i 0,.i 0,.i 0]),.m 7 13,.s 100001 13 8 15]
 (.draw [.L 16 4 3,.m 17 1,.m 18 7,.c 19 162 [17,18],.m 20 1,.m 21 7,.L 22 13 8,.c 23 163 [20,21,22],.c 24 161 [16,19,23],.s 100002 4 3 24] [[],[],[],[1,2],[],[],[],[4,5,6,3],[0,3,7,7],[8,8,0,1,2,3,4,5,6,7,8]])))
 (.reg [.B 25 .add 11 1,.m 11 25])))))))
 (.norm [1,2,3,6] (.q [.L 26 4 3,.c 27 164 [26],.s 100003 4 3 27]
 (.seq (.draw [.L 28 4 3,.m 29 1,.B 30 .rem 29 2,.m 31 1,.m 32 2,.n 33 32,.c 34 229 [31,33],.c 35 161 [28,30,34],.s 100004 4 3 35] [[],[],[1],[],[],[4],[3,5],[0,2,6,6],[7,7,0,1,2,3,4,5,6,7]])
 (.q [.L 36 4 3,.c 37 164 [36],.s 100005 4 6 37]
 .ret)))))⟩
theorem r_i_laid {Te:TE} (c_i_sectorOf:C_i_sectorOf Te) (c_i_PutRec:C_i_PutRec Te) (c_i_WriteSec:C_i_WriteSec Te) (c_i_FlushDev:C_i_FlushDev Te) (c_i_HeadOf:C_i_HeadOf Te):C_i_laid (RF Te x_i_laid):=by
 intro d gen recs hd hr
 have hrl:=hr.1
 refine X0 x_i_laid.eq_1 ?_
 refine loop_of (σ:=Bool×Nat×DevV) (fun x=>cond x.1 (⟨[(1,.one (.pv (.int .i64 gen))),(2,.one (.ro 13 (recs.map (RecV.enc false)))),(3,.bp 3 0),(6,.bp 6 0),(9,.one (.ro 13 (recs.map (RecV.enc false)))),(10,.one (.pv (.int .i64 recs.length))),(11,.one (.pv (.int .i64 x.2.1)))],[(3,[.rf 41 0 [] 1 0 x.2.2.Secs.length,.rf 41 1 [] 2 0 x.2.2.Cache.length,.pv (.int .i64 x.2.2.Fuse),.pv (.bool x.2.2.Down)]),(6,[.nils 1,.nils 2,.pv (.int .i64 0),.pv (.bool false)])],[(0,d.enc false),(1,[iT gen]),(2,[slT false 13 (RecV.enc false) recs]),(41,x.2.2.enc true)]⟩) (⟨[(1,.one (.pv (.int .i64 gen))),(2,.one (.ro 13 (recs.map (RecV.enc false)))),(3,.bp 3 0),(6,.bp 6 0),(9,.one (.ro 13 (recs.map (RecV.enc false)))),(10,.one (.pv (.int .i64 recs.length))),(11,.one (.pv (.int .i64 x.2.1)))],[(3,[.ro 1 (x.2.2.Secs.map (secR false)),.ro 2 (x.2.2.Cache.map (WrV.enc false)),.pv (.int .i64 x.2.2.Fuse),.pv (.bool x.2.2.Down)]),(6,[.nils 1,.nils 2,.pv (.int .i64 0),.pv (.bool false)])],[(0,d.enc false),(1,[iT gen]),(2,[slT false 13 (RecV.enc false) recs])]⟩)) (fun x=>x.2.1≤recs.length∧x.2.2=layN gen recs d x.2.1∧x.2.2.ok=true∧(x.1=false→x.2.1=0)) (fun x=>recs.length - x.2.1) (false,0,d) ?_ ⟨Nat.zero_le _,rfl,hd,fun _=>rfl⟩ ?_
 ·simp -implicitDefEqProofs (maxSteps:=1000000) only [go_sem]
  try rfl
 ·rintro ⟨b,i,D⟩ ⟨hi,hD,hk,hb⟩
  simp only at hi hD hk hb
  cases b
  ·cases q:decide ((i:Int) < (recs.length:Int))
   ·skip
    have k0:i=recs.length:=by simp only [decide_eq_false_iff_not] at q; omega
    have e:((D.flush).write (gen.tmod 2) (headOf gen recs.length)).flush=layDev gen recs d:=by rw [hD,k0]; rfl
    have hh:=headOf_len gen recs.length
    have f1:=flush_ok hk
    have f2:=write_ok f1 (gen.tmod 2) (headOf gen recs.length)
    refine G1 q ?_
    refine C0 (c_i_FlushDev D hk) ?_
    refine C0 (c_i_HeadOf _ _) ?_
    refine .of (c_i_WriteSec D.flush _ _ f1 (by omega)) ?_
    try simp -implicitDefEqProofs (maxSteps:=1000000) only [go_sem,take_all]
    repeat refine ⟨sc,?_⟩
    try exact sf
    refine .of (c_i_FlushDev _ f2) ?_
    try simp -implicitDefEqProofs (maxSteps:=1000000) only [go_sem,take_all,e,DevV.enc]
    repeat refine ⟨sc,?_⟩
    try exact sf
    try rfl
   ·skip
    have k1:i < recs.length:=by simp only [decide_eq_true_eq] at q; omega
    have hp:=putRec_len gen i recs[i]
    have hin:=hr.2 _ (List.getElem_mem k1)
    have es:=layN_step gen d k1
    rw [← hD] at es
    refine G2 q (List.getElem?_eq_getElem k1) ?_
    refine C0 (c_i_sectorOf _ _) ?_
    refine C0 (c_i_PutRec _ _ recs[i] hin) ?_
    refine .of (c_i_WriteSec D _ _ hk (by omega)) ?_
    try simp -implicitDefEqProofs (maxSteps:=1000000) only [go_sem,take_all]
    repeat refine ⟨sc,?_⟩
    try exact sf
    refine ⟨(true,i + 1,D.write (secOf gen i) (putRec gen i recs[i])),?_,⟨k1,es,write_ok hk _ _,fun h=>by cases h⟩,by simp only; omega⟩
    rw [IntWalk.i64_in _ (by omega)]
    rfl
  ·cases q:decide ((i:Int) < (recs.length:Int))
   ·skip
    have k0:i=recs.length:=by simp only [decide_eq_false_iff_not] at q; omega
    have e:((D.flush).write (gen.tmod 2) (headOf gen recs.length)).flush=layDev gen recs d:=by rw [hD,k0]; rfl
    have hh:=headOf_len gen recs.length
    have f1:=flush_ok hk
    have f2:=write_ok f1 (gen.tmod 2) (headOf gen recs.length)
    refine G1 q ?_
    refine C0 (c_i_FlushDev D hk) ?_
    refine C0 (c_i_HeadOf _ _) ?_
    refine .of (c_i_WriteSec D.flush _ _ f1 (by omega)) ?_
    try simp -implicitDefEqProofs (maxSteps:=1000000) only [go_sem,take_all]
    repeat refine ⟨sc,?_⟩
    try exact sf
    refine .of (c_i_FlushDev _ f2) ?_
    try simp -implicitDefEqProofs (maxSteps:=1000000) only [go_sem,take_all,e,DevV.enc]
    repeat refine ⟨sc,?_⟩
    try exact sf
    try rfl
   ·skip
    have k1:i < recs.length:=by simp only [decide_eq_true_eq] at q; omega
    have hp:=putRec_len gen i recs[i]
    have hin:=hr.2 _ (List.getElem_mem k1)
    have es:=layN_step gen d k1
    rw [← hD] at es
    refine G2 q (List.getElem?_eq_getElem k1) ?_
    refine C0 (c_i_sectorOf _ _) ?_
    refine C0 (c_i_PutRec _ _ recs[i] hin) ?_
    refine .of (c_i_WriteSec D _ _ hk (by omega)) ?_
    try simp -implicitDefEqProofs (maxSteps:=1000000) only [go_sem,take_all]
    repeat refine ⟨sc,?_⟩
    try exact sf
    refine ⟨(true,i + 1,D.write (secOf gen i) (putRec gen i recs[i])),?_,⟨k1,es,write_ok hk _ _,fun h=>by cases h⟩,by simp only; omega⟩
    rw [IntWalk.i64_in _ (by omega)]
    rfl
def x_i_EucSign:FnX:=⟨54,[.tmp 4,.tmp 5,.tmp 6],
  .q [.i 4 0,.i 5 0,.F 6]
 (.seq (.q [.m 9 1,.B 10 .lss 9 0,.m 11 10,.z 11 (.m 12 1),.z 11 (.m 13 0),.z 11 (.n 14 13),.z 11 (.b 15 .geq 12 14),.r 16 11 15]
 (.c 16 (.q [.i 4 0,.i 5 0,.F 6]
 .ret)))
 (.seq (.q [.m 17 0,.m 18 1,.x 19 1 17 18,.l 20 19,.op 21 (.bin .leq (.t 20) (.k (.one (.pv (.int .u8 127)))))]
 (.c 21 (.q [.m 22 0,.m 23 1,.x 24 1 22 23,.l 25 24,.op 26 (.conv (.int .i64) (.t 25)),.m 27 1,.B 28 .add 27 1,.m 4 26,.m 5 28,.T 6]
 .ret)))
 (.seq (.q [.m 29 1,.B 30 .add 29 1,.m 31 0,.n 32 31,.b 33 .eql 30 32]
 (.c 33 (.q [.i 4 0,.i 5 0,.F 6]
 .ret)))
 (.seq (.draw [.m 35 0,.m 36 1,.x 37 1 35 36,.l 38 37,.op 39 (.conv (.int .i64) (.t 38)),.m 40 0,.m 41 1,.B 42 .add 41 1,.x 43 1 40 42,.l 44 43,.op 45 (.conv (.int .i64) (.t 44)),.c 46 237 [39,45],.m 34 46,.e 47 34 0,.e 48 34 1,.m 7 47,.m 8 48] [[],[],[0,1],[2],[3],[],[],[6],[5,7],[8],[9],[4,10],[11],[12],[12],[13,11,0,1,2,3,4,5,6,7,8,9,10,11,12,13],[14,15,0,1,2,3,4,5,6,7,8,9,10,11,12,13,14,15]])
 (.seq (.q [.m 49 8,.N 50 49]
 (.c 50 (.q [.i 4 0,.i 5 0,.F 6]
 .ret)))
 (.q [.m 51 7,.m 52 1,.B 53 .add 52 2,.m 4 51,.m 5 53,.T 6]
 .ret))))))⟩
theorem r_i_EucSign {Te:TE} (c_i_PairSign:C_i_PairSign Te):C_i_EucSign (RF Te x_i_EucSign):=by
 intro b i hb
 refine run0 ?_
 by_cases hi:0≤i∧i < b.length
 ·obtain ⟨k,rfl⟩:∃ k:Nat,i=k:=⟨i.toNat,by omega⟩
  have hk:k < b.length:=by omega
  have eb:b[k].toNat=byteN (b.drop k) 0:=byteN_drop (j:=0) hk
  have hlt:=byteN_lt (b.drop k) 0
  have hlt1:=byteN_lt (b.drop k) 1
  have w3:IntKind.i64.wrap ((byteN (b.drop k) 0:Nat):Int)=(byteN (b.drop k) 0:Nat):=IntWalk.i64_in _ (by omega)
  have w4:IntKind.i64.wrap ((byteN (b.drop k) 1:Nat):Int)=(byteN (b.drop k) 1:Nat):=IntWalk.i64_in _ (by omega)
  have w5:IntKind.i64.wrap ((k:Int) + 1)=(k:Int) + 1:=IntWalk.i64_in _ (by omega)
  have w6:IntKind.i64.wrap ((k:Int) + 2)=(k:Int) + 2:=IntWalk.i64_in _ (by omega)
  have w7:((k:Int) + 1).toNat=k + 1:=by omega
  have q8:decide ((k:Int) < 0)=false:=decide_eq_false (by omega)
  have q9:decide ((k:Int)≥(b.length:Int))=false:=decide_eq_false (by omega)
  cases q:decide (((byteN (b.drop k) 0:Nat):Int)≤127)
  ·have h1:¬ byteN (b.drop ((k:Nat):Int).toNat) 0 < 128:=by rw [Int.toNat_natCast]; simp only [decide_eq_false_iff_not] at q; omega
   cases q2:((k:Int) + 1==(b.length:Int))
   ·have h3:(k:Int) + 1 < b.length:=by
     have:(k:Int) + 1≠(b.length:Int):=by simpa using q2
     omega
    have hk1:k + 1 < b.length:=by omega
    have eb1:b[k + 1].toNat=byteN (b.drop k) 1:=byteN_drop (j:=1) hk1
    simp -implicitDefEqProofs (maxSteps:=1000000) only [x_i_EucSign,go_sem,q,q2,q8,q9,List.getElem?_eq_getElem hk,eb,w3,w5,w7,List.getElem?_eq_getElem hk1,eb1,w4]
    repeat refine ⟨sc,?_⟩
    try exact sf
    refine .of (c_i_PairSign _ _ (by omega)) ?_
    try simp -implicitDefEqProofs (maxSteps:=1000000) only [go_sem]
    repeat refine ⟨sc,?_⟩
    try exact sf
    cases q3:(pairSign ((byteN (b.drop k) 0:Nat):Int) ((byteN (b.drop k) 1:Nat):Int)).2
    ·have e:=euc_bad hi h1 q3
     exact F2 q3 e
    ·have e:=euc_two hi h1 h3 q3
     exact F3 q3 e w6
   ·have e:=euc_end hi h1 (by have:=eq_of_beq q2; omega)
    simp -implicitDefEqProofs (maxSteps:=1000000) only [x_i_EucSign,go_sem,q,q2,q8,q9,List.getElem?_eq_getElem hk,eb,w3,w5,e]
    repeat refine ⟨sc,?_⟩
    try exact sf
  ·have e:=euc_one hi (by rw [Int.toNat_natCast]; simp only [decide_eq_true_eq] at q; omega)
   simp -implicitDefEqProofs (maxSteps:=1000000) only [x_i_EucSign,go_sem,q,q8,q9,List.getElem?_eq_getElem hk,eb,w3,w5,e]
   repeat refine ⟨sc,?_⟩
   try exact sf
 ·have e:=euc_no hi
  cases q8:decide (i < 0)
  ·have q9:decide (i≥(b.length:Int))=true:=by simp only [decide_eq_false_iff_not] at q8; exact decide_eq_true (by omega)
   simp -implicitDefEqProofs (maxSteps:=1000000) only [x_i_EucSign,go_sem,q8,q9,e]
   repeat refine ⟨sc,?_⟩
   try exact sf
  ·simp -implicitDefEqProofs (maxSteps:=1000000) only [x_i_EucSign,go_sem,q8,e]
   repeat refine ⟨sc,?_⟩
   try exact sf
def x_s_EucSign:FnX:=⟨52,[.tmp 4,.tmp 5,.tmp 6],
  .q [.i 4 0,.i 5 0,.F 6]
 (.seq (.q [.m 9 1,.m 10 0,.n 11 10,.B 12 .sub 11 1,.op 13 (.call 42 [0,0,0] [(.t 9),(.i 0),(.t 12)]),.N 14 13]
 (.c 14 (.q [.i 4 0,.i 5 0,.F 6]
 .ret)))
 (.seq (.q [.m 15 0,.m 16 1,.x 17 1 15 16,.l 18 17,.op 19 (.bin .lss (.t 18) (.k (.one (.pv (.int .u8 128)))))]
 (.c 19 (.q [.m 20 0,.m 21 1,.x 22 1 20 21,.l 23 22,.op 24 (.conv (.int .i64) (.t 23)),.m 25 1,.B 26 .add 25 1,.m 4 24,.m 5 26,.T 6]
 .ret)))
 (.seq (.q [.m 27 1,.B 28 .add 27 1,.m 29 0,.n 30 29,.b 31 .geq 28 30]
 (.c 31 (.q [.i 4 0,.i 5 0,.F 6]
 .ret)))
 (.seq (.draw [.m 33 0,.m 34 1,.x 35 1 33 34,.l 36 35,.op 37 (.conv (.int .i64) (.t 36)),.m 38 0,.m 39 1,.B 40 .add 39 1,.x 41 1 38 40,.l 42 41,.op 43 (.conv (.int .i64) (.t 42)),.c 44 255 [37,43],.m 32 44,.e 45 32 0,.e 46 32 1,.m 7 45,.m 8 46] [[],[],[0,1],[2],[3],[],[],[6],[5,7],[8],[9],[4,10],[11],[12],[12],[13,11,0,1,2,3,4,5,6,7,8,9,10,11,12,13],[14,15,0,1,2,3,4,5,6,7,8,9,10,11,12,13,14,15]])
 (.seq (.q [.m 47 8,.N 48 47]
 (.c 48 (.q [.i 4 0,.i 5 0,.F 6]
 .ret)))
 (.q [.m 49 7,.m 50 1,.B 51 .add 50 2,.m 4 49,.m 5 51,.T 6]
 .ret))))))⟩
theorem r_s_EucSign {Te:TE} (c_s_l1In:C_s_l1In Te) (c_s_PairSign:C_s_PairSign Te):C_s_EucSign (RF Te x_s_EucSign):=by
 intro b i hb
 have w1:IntKind.i64.wrap ((b.length:Int) - 1)=(b.length:Int) - 1:=IntWalk.i64_in _ (by omega)
 by_cases hi:0≤i∧i < b.length
 ·obtain ⟨k,rfl⟩:∃ k:Nat,i=k:=⟨i.toNat,by omega⟩
  have hk:k < b.length:=by omega
  have eb:b[k].toNat=byteN (b.drop k) 0:=byteN_drop (j:=0) hk
  have hlt:=byteN_lt (b.drop k) 0
  have hlt1:=byteN_lt (b.drop k) 1
  have w3:IntKind.i64.wrap ((byteN (b.drop k) 0:Nat):Int)=(byteN (b.drop k) 0:Nat):=IntWalk.i64_in _ (by omega)
  have w4:IntKind.i64.wrap ((byteN (b.drop k) 1:Nat):Int)=(byteN (b.drop k) 1:Nat):=IntWalk.i64_in _ (by omega)
  have w5:IntKind.i64.wrap ((k:Int) + 1)=(k:Int) + 1:=IntWalk.i64_in _ (by omega)
  have w6:IntKind.i64.wrap ((k:Int) + 2)=(k:Int) + 2:=IntWalk.i64_in _ (by omega)
  have w7:((k:Int) + 1).toNat=k + 1:=by omega
  have g:win (k:Int) 0 ((b.length:Int) - 1)=true:=by simp only [win,Bool.and_eq_true,decide_eq_true_eq]; omega
  refine X1 x_s_EucSign.eq_1 w1 ?_
  refine C4 (c_s_l1In _ _ _) g (List.getElem?_eq_getElem hk) eb w3 ?_
  cases q:decide (((byteN (b.drop k) 0:Nat):Int) < 128)
  ·have h1:¬ byteN (b.drop ((k:Nat):Int).toNat) 0 < 128:=by rw [Int.toNat_natCast]; simp only [decide_eq_false_iff_not] at q; omega
   cases q2:decide ((k:Int) + 1≥(b.length:Int))
   ·have h3:(k:Int) + 1 < b.length:=by simp only [decide_eq_false_iff_not] at q2; omega
    have hk1:k + 1 < b.length:=by omega
    have eb1:b[k + 1].toNat=byteN (b.drop k) 1:=byteN_drop (j:=1) hk1
    try simp -implicitDefEqProofs (maxSteps:=1000000) only [go_sem,q,q2,List.getElem?_eq_getElem hk,eb,w3,w5,w7,List.getElem?_eq_getElem hk1,eb1,w4]
    repeat refine ⟨sc,?_⟩
    try exact sf
    refine .of (c_s_PairSign _ _ (by omega)) ?_
    try simp -implicitDefEqProofs (maxSteps:=1000000) only [go_sem]
    repeat refine ⟨sc,?_⟩
    try exact sf
    cases q3:(pairSign ((byteN (b.drop k) 0:Nat):Int) ((byteN (b.drop k) 1:Nat):Int)).2
    ·have e:=euc_bad hi h1 q3
     exact F2 q3 e
    ·have e:=euc_two hi h1 h3 q3
     exact F3 q3 e w6
   ·have e:=euc_end hi h1 (by simp only [decide_eq_true_eq] at q2; omega)
    try simp -implicitDefEqProofs (maxSteps:=1000000) only [go_sem,q,q2,List.getElem?_eq_getElem hk,eb,w3,w5,e]
    repeat refine ⟨sc,?_⟩
    try exact sf
  ·have e:=euc_one hi (by rw [Int.toNat_natCast]; simp only [decide_eq_true_eq] at q; omega)
   try simp -implicitDefEqProofs (maxSteps:=1000000) only [go_sem,q,List.getElem?_eq_getElem hk,eb,w3,w5,e]
   repeat refine ⟨sc,?_⟩
   try exact sf
 ·have e:=euc_no hi
  have g:win i 0 ((b.length:Int) - 1)=false:=by
   simp only [win,Bool.and_eq_false_imp,decide_eq_true_eq,decide_eq_false_iff_not]
   omega
  refine X1 x_s_EucSign.eq_1 w1 ?_
  exact D2 (c_s_l1In _ _ _) g e
def x_i_rowsBehind:FnX:=⟨26,[.tmp 4],
  .q [.v 2 0,.op 4 (.mv (.k (.one (.nils 7))))]
 (.q [.op 8 (.bslice 7 []),.m 5 8]
 (.seq (.q [.f 9 2 0,.l 10 9,.n 11 10,.i 12 0]
 (.block 0 (.loop [1,5,10,11,12] (.q [.b 13 .lss 12 11]
 (.seq (.cond 13 .skip (.exit 0))
 (.seq (.block 1 (.q [.x 14 7 10 12,.L 15 7 14,.op 7 (.alloc [.e,.i 0,.nils 1,.i 0,.nils 1,.i 0,.F]),.s 100001 7 7 15]
 (.q [.f 16 7 0,.l 17 16,.m 18 1,.b 19 .gtr 17 18]
 (.c 19 (.reg [.m 20 5,.L 21 7 7,.op 22 (.bslice 7 [(.t 21)]),.op 23 (.app 7 96 (.t 20) (.t 22)),.m 5 23])))))
 (.reg [.B 24 .add 12 1,.m 12 24])))))))
 (.norm [5] (.q [.m 25 5,.m 4 25]
 .ret))))⟩
theorem r_i_rowsBehind {Te:TE}:C_i_rowsBehind (RF Te x_i_rowsBehind):=by
 intro t f hl
 refine X0 x_i_rowsBehind.eq_1 ?_
 refine loop_of (σ:=Nat) (fun i=>⟨[(1,.one (.pv (.string f))),(5,.one (.rf 28 0 [] 7 0 (behind f (t.Rows.take i)).length)),(10,.one (.ro 7 (t.Rows.map (RowV.enc false)))),(11,.one (.pv (.int .i64 t.Rows.length))),(12,.one (.pv (.int .i64 i)))],[],[(0,t.enc false),(1,[sT f]),(28,[slT true 7 (RowV.enc false) (behind f (t.Rows.take i))])]⟩) (fun i=>i≤t.Rows.length) (fun i=>t.Rows.length - i) 0 ?_ (Nat.zero_le _) ?_
 ·simp -implicitDefEqProofs (maxSteps:=1000000) only [go_sem]
  try rfl
 ·intro i hi
  have hb:(behind f (t.Rows.take i)).length≤i:=Nat.le_trans (List.length_filter_le _ _) (by rw [List.length_take]; omega)
  cases q:decide ((i:Int) < (t.Rows.length:Int))
  ·have e:t.Rows.take i=t.Rows:=List.take_of_length_le (by simp only [decide_eq_false_iff_not] at q; omega)
   rw [e]
   exact F1 q
  ·have k1:i < t.Rows.length:=by simp only [decide_eq_true_eq] at q; omega
   have es:=behind_step (f:=f) k1
   cases g:isBehind f t.Rows[i].Key
   ·have g':=g
    rw [isBehind] at g'
    rw [g,cond_false,List.append_nil] at es
    refine G3 q (List.getElem?_eq_getElem k1) g' ?_
    refine ⟨i + 1,?_,k1,by omega⟩
    rw [es,IntWalk.i64_in _ (by omega)]
    rfl
   ·have g':=g
    rw [isBehind] at g'
    rw [g,cond_true] at es
    refine G3 q (List.getElem?_eq_getElem k1) g' ?_
    refine ⟨i + 1,?_,k1,by omega⟩
    rw [es,IntWalk.i64_in _ (by omega),List.length_append]
    simp only [slT,List.map_append]
    rfl
def x_s_l12SameCell:FnX:=⟨19,[.tmp 4],
  .q [.v 2 0,.v 3 1,.F 4]
 (.q [.f 5 2 0,.l 6 5,.f 7 3 0,.l 8 7,.b 9 .eql 6 8,.m 10 9,.y 10 (.f 11 2 1),.y 10 (.l 12 11),.y 10 (.op 13 (.conv .b2s (.t 12))),.y 10 (.f 14 3 1),.y 10 (.l 15 14),.y 10 (.op 16 (.conv .b2s (.t 15))),.y 10 (.b 17 .eql 13 16),.a 18 10 17,.m 4 18]
 .ret)⟩
theorem r_s_l12SameCell {Te:TE}:C_s_l12SameCell (RF Te x_s_l12SameCell):=by
 intro a c
 refine run0 ?_
 cases g:(a.Tag==c.Tag)
 ·simp -implicitDefEqProofs (maxSteps:=1000000) only [x_s_l12SameCell,go_sem,g]
  repeat refine ⟨sc,?_⟩
  try exact sf
 ·have ea:=areBytes_uR a.B
  have ec:=areBytes_uR c.B
  have fa:=bytesOf_uR a.B
  have fc:=bytesOf_uR c.B
  simp -implicitDefEqProofs (maxSteps:=1000000) only [x_s_l12SameCell,go_sem,g,ea,ec,fa,fc,bytes_beq,bytes_lists]
  repeat refine ⟨sc,?_⟩
  try exact sf
def x_s_l12SameRow:FnX:=⟨38,[.tmp 4],
  .q [.v 2 0,.v 3 1,.F 4]
 (.q [.f 5 2 0,.l 6 5,.f 7 3 0,.l 8 7,.b 9 .eql 6 8,.m 10 9,.y 10 (.f 11 2 1),.y 10 (.L 12 2 11),.y 10 (.f 13 3 1),.y 10 (.L 14 2 13),.y 10 (.c 15 147 [12,14]),.a 16 10 15,.m 17 16,.y 17 (.f 18 2 3),.y 17 (.L 19 2 18),.y 17 (.f 20 3 3),.y 17 (.L 21 2 20),.y 17 (.c 22 147 [19,21]),.a 23 17 22,.m 24 23,.y 24 (.f 25 2 5),.y 24 (.l 26 25),.y 24 (.f 27 3 5),.y 24 (.l 28 27),.y 24 (.b 29 .eql 26 28),.a 30 24 29,.m 31 30,.y 31 (.f 32 2 6),.y 31 (.l 33 32),.y 31 (.f 34 3 6),.y 31 (.l 35 34),.y 31 (.op 36 (.beq false (.t 33) (.t 35))),.a 37 31 36,.m 4 37]
 .ret)⟩
theorem r_s_l12SameRow {Te:TE} (c_s_l12SameCell:C_s_l12SameCell Te):C_s_l12SameRow (RF Te x_s_l12SameRow):=by
 intro a c
 refine run0 ?_
 simp -implicitDefEqProofs (maxSteps:=1000000) only [x_s_l12SameRow,go_sem,bytes_beq]
 repeat refine ⟨sc,?_⟩
 try exact sf
 cases g1:decide (a.Key=c.Key)
 ·try simp -implicitDefEqProofs (maxSteps:=1000000) only [go_sem,g1,rowSame]
  repeat refine ⟨sc,?_⟩
  try exact sf
 refine G1 g1 ?_
 have t1:=c_s_l12SameCell a.Old c.Old
 have t2:=c_s_l12SameCell a.New c.New
 rw [← cellSame] at t1 t2
 refine .of t1 ?_
 cases g2:cellSame a.Old c.Old
 ·try simp -implicitDefEqProofs (maxSteps:=1000000) only [go_sem,g1,g2,rowSame]
  repeat refine ⟨sc,?_⟩
  try exact sf
 refine G0 ?_
 refine .of t2 ?_
 cases g3:cellSame a.New c.New
 ·try simp -implicitDefEqProofs (maxSteps:=1000000) only [go_sem,g1,g2,g3,rowSame]
  repeat refine ⟨sc,?_⟩
  try exact sf
 refine G0 ?_
 cases g4:(a.Has==c.Has)
 ·try simp -implicitDefEqProofs (maxSteps:=1000000) only [go_sem,g1,g2,g3,g4,rowSame]
  repeat refine ⟨sc,?_⟩
  try exact sf
 have e9:∀ c:Bool,(c != false)=c:=fun c=>by cases c <;> rfl
 try simp -implicitDefEqProofs (maxSteps:=1000000) only [go_sem,g1,g2,g3,g4,rowSame,e9]
 repeat refine ⟨sc,?_⟩
 try exact sf
def x_s_RecsOf:FnX:=⟨57,[.tmp 2],
  .q [.v 1 0,.op 2 (.mv (.k (.one (.nils 13))))]
 (.q [.f 6 1 1,.l 7 6,.op 8 (.build [.i 0,.e,.i 0,.nils 1,.i 0,.nils 1,.i 0,.F,.e,.i 0,.i 0,.i 0,.i 0] [(0,1,(.i 3)),(9,1,(.t 7))]),.op 9 (.bslice 13 [(.t 8)]),.m 3 9]
 (.seq (.q [.i 4 0]
 (.block 0 (.loop [1,3,4] (.seq (.q [.m 10 4,.f 11 1 0,.l 12 11,.n 13 12,.b 14 .lss 10 13]
 (.cond 14 .skip (.exit 0)))
 (.seq (.block 1 (.reg [.m 17 3,.f 18 1 0,.l 19 18,.m 20 4,.x 21 7 19 20,.L 22 7 21,.c 23 131 [22],.op 24 (.build [.i 0,.e,.i 0,.nils 1,.i 0,.nils 1,.i 0,.F,.e,.i 0,.i 0,.i 0,.i 0] [(0,1,(.i 1)),(1,7,(.t 23))]),.op 25 (.bslice 13 [(.t 24)]),.op 26 (.app 13 152 (.t 17) (.t 25)),.m 3 26]))
 (.reg [.m 15 4,.B 16 .add 15 1,.m 4 16]))))))
 (.norm [1,3] (.seq (.q [.i 5 0]
 (.block 2 (.loop [1,3,5] (.seq (.q [.m 27 5,.f 28 1 2,.l 29 28,.n 30 29,.b 31 .lss 27 30]
 (.cond 31 .skip (.exit 2)))
 (.seq (.block 3 (.draw [.m 34 3,.f 35 1 2,.l 36 35,.m 37 5,.x 38 3 36 37,.f 39 38 0,.l 40 39,.f 41 1 2,.l 42 41,.m 43 5,.x 44 3 42 43,.f 45 44 1,.l 46 45,.f 47 1 2,.l 48 47,.m 49 5,.x 50 3 48 49,.f 51 50 2,.l 52 51,.op 53 (.build [.i 0,.e,.i 0,.nils 1,.i 0,.nils 1,.i 0,.F,.e,.i 0,.i 0,.i 0,.i 0] [(0,1,(.i 4)),(10,1,(.t 40)),(11,1,(.t 46)),(12,1,(.t 52))]),.op 54 (.bslice 13 [(.t 53)]),.op 55 (.app 13 152 (.t 34) (.t 54)),.m 3 55] [[],[],[1],[],[2,3],[4],[5],[],[7],[],[8,9],[10],[11],[],[13],[],[14,15],[16],[17],[6,12,18],[19],[0,20],[21,21,0,1,2,3,4,5,6,7,8,9,10,11,12,13,14,15,16,17,18,19,20,21]]))
 (.reg [.m 32 5,.B 33 .add 32 1,.m 5 33]))))))
 (.norm [3] (.q [.m 56 3,.m 2 56]
 .ret))))))⟩
theorem r_s_RecsOf {Te:TE} (c_s_l9Copy:C_s_l9Copy Te):C_s_RecsOf (RF Te x_s_RecsOf):=by
 intro t h
 obtain ⟨⟨hR,hRl⟩,hM⟩:=h
 refine X0 x_s_RecsOf.eq_1 ?_
 refine loop_of (σ:=Nat×List RecV) (fun x=>⟨[(1,.bp 1 0),(3,.one (.rf 58 0 [] 13 0 x.2.length)),(4,.one (.pv (.int .i64 x.1)))],[(1,[.ro 7 (t.Rows.map (RowV.enc false)),.pv (.int .i64 t.Phase),.ro 3 (t.Marks.map MarkV.row)])],[(0,t.enc false),(58,[slT true 13 (RecV.enc true) x.2])]⟩) (fun x=>x.1≤t.Rows.length∧x.2.length=x.1 + 1∧x.2=recPhase t.Phase::(t.Rows.take x.1).map recRow) (fun x=>t.Rows.length - x.1) (0,[recPhase t.Phase]) ?_ ⟨Nat.zero_le _,rfl,rfl⟩ ?_
 ·simp -implicitDefEqProofs (maxSteps:=1000000) only [go_sem]
  try rfl
 ·rintro ⟨i,a⟩ ⟨hi,hl,he⟩
  simp only at hi hl he
  cases q:decide ((i:Int) < (t.Rows.length:Int))
  ·have k0:i=t.Rows.length:=by simp only [decide_eq_false_iff_not] at q; omega
   rw [k0,List.take_length] at he
   refine G1 q ?_
   refine loop_of (σ:=Nat×List RecV) (fun x=>⟨[(1,.bp 1 0),(3,.one (.rf 58 0 [] 13 0 x.2.length)),(5,.one (.pv (.int .i64 x.1)))],[(1,[.ro 7 (t.Rows.map (RowV.enc false)),.pv (.int .i64 t.Phase),.ro 3 (t.Marks.map MarkV.row)])],[(0,t.enc false),(58,[slT true 13 (RecV.enc true) x.2])]⟩) (fun x=>x.1≤t.Marks.length∧x.2.length=t.Rows.length + x.1 + 1∧x.2=recPhase t.Phase::(t.Rows.map recRow++(t.Marks.take x.1).map recMark)) (fun x=>t.Marks.length - x.1) (0,a) ?_ ⟨Nat.zero_le _,by simp only; omega,by simp only [List.take_zero,List.map_nil,List.append_nil]; exact he⟩ ?_
   ·simp -implicitDefEqProofs (maxSteps:=1000000) only [go_sem]
    try rfl
   ·rintro ⟨j,b⟩ ⟨hj,hbl,hbe⟩
    simp only at hj hbl hbe
    cases q2:decide ((j:Int) < (t.Marks.length:Int))
    ·have k2:j=t.Marks.length:=by simp only [decide_eq_false_iff_not] at q2; omega
     rw [k2,List.take_length] at hbe
     have e9:recsOf t=b:=hbe.symm
     have e8:List.take b.length (List.map (RecV.enc true) b)=List.map (RecV.enc true) b:=List.take_of_length_le (by simp)
     exact F3 q2 e9 e8
    ·have k2:j < t.Marks.length:=by simp only [decide_eq_true_eq] at q2; omega
     have ea:List.map (RecV.enc true) b++[[iT 4,sT ⟨#[]⟩,iT 0,Tr.sl true 1 () [],iT 0,Tr.sl true 1 () [],iT 0,bT false,sT ⟨#[]⟩,iT 0,iT t.Marks[j].Who,iT t.Marks[j].Seq,iT t.Marks[j].Code]]=List.map (RecV.enc true) (b++[recMark t.Marks[j]]):=by rw [List.map_append]; rfl
     have et:List.take b.length (List.map (RecV.enc true) b)=List.map (RecV.enc true) b:=List.take_of_length_le (by simp)
     refine G4 q2 (List.getElem?_eq_getElem k2) et ea ?_
     refine ⟨(j + 1,b++[recMark t.Marks[j]]),?_,⟨k2,?_,?_⟩,?_⟩
     ·rw [IntWalk.i64_in _ (by omega)]
      simp only [List.length_append]
      rfl
     ·simp only [List.length_append,List.length_cons,List.length_nil]; omega
     ·rw [hbe,recs_marks k2]
     ·simp only; omega
  ·have k1:i < t.Rows.length:=by simp only [decide_eq_true_eq] at q; omega
   have ea:List.map (RecV.enc true) a++[[iT 1,sT t.Rows[i].Key,iT t.Rows[i].Old.Tag,slT true 1 uR t.Rows[i].Old.B,iT t.Rows[i].New.Tag,slT true 1 uR t.Rows[i].New.B,iT t.Rows[i].Has,bT t.Rows[i].Aside,sT ⟨#[]⟩,iT 0,iT 0,iT 0,iT 0]]=List.map (RecV.enc true) (a++[recRow t.Rows[i]]):=by rw [List.map_append]; rfl
   have et:List.take a.length (List.map (RecV.enc true) a)=List.map (RecV.enc true) a:=List.take_of_length_le (by simp)
   refine G2 q (List.getElem?_eq_getElem k1) ?_
   refine C2 (c_s_l9Copy t.Rows[i] (hRl _ (List.getElem_mem k1))) et ea ?_
   refine ⟨(i + 1,a++[recRow t.Rows[i]]),?_,⟨k1,?_,?_⟩,?_⟩
   ·rw [IntWalk.i64_in _ (by omega)]
    simp only [List.length_append]
    rfl
   ·simp only [List.length_append,List.length_cons,List.length_nil]; omega
   ·rw [he,recs_rows k1]
   ·simp only; omega
def x_s_l10Flush:FnX:=⟨46,[],
  .seq (.q [.m 3 0,.op 4 (.nilc (.t 3)),.f 5 4 3,.l 6 5,.m 7 6,.z 7 (.m 8 0),.z 7 (.op 9 (.call 185 [6] [(.t 8)])),.z 7 (.N 10 9),.r 11 7 10]
 (.c 11 .ret))
 (.seq (.q [.i 2 0]
 (.block 0 (.loop [0,2] (.seq (.q [.m 12 2,.m 13 0,.op 14 (.nilc (.t 13)),.f 15 14 1,.l 16 15,.n 17 16,.b 18 .lss 12 17]
 (.cond 18 .skip (.exit 0)))
 (.seq (.block 1 (.draw [.m 21 0,.op 22 (.nilc (.t 21)),.f 23 22 0,.l 24 23,.m 25 0,.op 26 (.nilc (.t 25)),.f 27 26 1,.l 28 27,.m 29 2,.x 30 2 28 29,.f 31 30 0,.l 32 31,.m 33 0,.op 34 (.nilc (.t 33)),.f 35 34 1,.l 36 35,.m 37 2,.x 38 2 36 37,.f 39 38 1,.l 40 39,.x 41 1 24 32,.s 100001 1 41 40] [[],[0],[1],[2],[],[4],[5],[6],[],[7,8],[9],[10],[],[12],[13],[14],[],[15,16],[17],[18],[3,11,0,1,2,3,4,5,6,7,8,9,10,11,12,13,14,15,16,17,18,19],[20,19,0,1,2,3,4,5,6,7,8,9,10,11,12,13,14,15,16,17,18,19]]))
 (.reg [.m 19 2,.B 20 .add 19 1,.m 2 20]))))))
 (.norm [0] (.reg [.m 42 0,.op 43 (.bslice 2 []),.op 44 (.nilc (.t 42)),.f 45 44 1,.s 100002 1 45 43])))⟩
theorem r_s_l10Flush {Te:TE} (c_s_l10Op:C_s_l10Op Te):C_s_l10Flush (RF Te x_s_l10Flush):=by
 intro d hd hidx
 refine X0 x_s_l10Flush.eq_1 ?_
 cases g1:d.Down
 rotate_left
 ·have e:d.flush=d:=by rw [DevV.flush,if_pos g1]
  try simp -implicitDefEqProofs (maxSteps:=1000000) only [go_sem,g1,e,take_all,DevV.enc]
  repeat refine ⟨sc,?_⟩
  try exact sf
  try rfl
 have e:=show d.flush=if d.Fuse=0 then d.burn else ⟨flushed d.Secs d.Cache,[],d.burn.Fuse,d.burn.Down⟩ from if_neg (by rw [g1]; decide)
 refine G1 g1 ?_
 have tb:=c_s_l10Op d
 simp only [DevV.enc,g1] at tb
 have bc:=burn_cache d
 have bs:=burn_secs d
 cases g6:(d.Fuse==0)
 rotate_left
 ·have g7:d.Fuse=0:=by simpa using g6
  rw [if_pos g7] at e
  refine .of (tb) ?_
  try simp -implicitDefEqProofs (maxSteps:=1000000) only [go_sem,g6,take_all,e,g1,DevV.enc]
  repeat refine ⟨sc,?_⟩
  try exact sf
  try rfl
 have g7:¬ d.Fuse=0:=by simpa using g6
 rw [if_neg g7] at e
 refine C1 (tb) g6 ?_
 refine loop_of (σ:=Nat×List (List UInt8)) (fun x=>⟨[(0,.bp 0 0),(2,.one (.pv (.int .i64 x.1)))],[(0,[.rf 47 1 [] 1 0 d.Secs.length,.rf 47 2 [] 2 0 d.Cache.length,.pv (.int .i64 d.burn.Fuse),.pv (.bool d.burn.Down)])],[(0,[.no (),.no (),iT d.Fuse,bT false]),(47,[bT true,slT true 1 (secR true) x.2,Tr.sl true 2 () (mvRows d.Cache x.1),iT d.burn.Fuse,bT d.burn.Down])]⟩) (fun x=>x.1≤d.Cache.length∧x.2=flushed d.Secs (d.Cache.take x.1)) (fun x=>d.Cache.length - x.1) (0,d.Secs) ?_ ⟨Nat.zero_le _,rfl⟩ ?_
 ·simp -implicitDefEqProofs (maxSteps:=1000000) only [go_sem,bs,bc]
  try rfl
 ·rintro ⟨i,S⟩ ⟨hi,he⟩
  simp only at hi he
  have hl:S.length=d.Secs.length:=by rw [he,flushed_len]
  have hl2:(List.map (secR true) S).length=d.Secs.length:=by rw [List.length_map,hl]
  cases q:decide ((i:Int) < (d.Cache.length:Int))
  ·have k0:i=d.Cache.length:=by simp only [decide_eq_false_iff_not] at q; omega
   rw [k0,List.take_length] at he
   have et:List.take d.Secs.length (List.map (secR true) S)=List.map (secR true) S:=List.take_of_length_le (by omega)
   rw [← he] at e
   exact F3 q et e
  ·have k1:i < d.Cache.length:=by simp only [decide_eq_true_eq] at q; omega
   have hw:=hidx _ (List.getElem_mem k1)
   have g8:decide (0≤d.Cache[i].N)=true:=decide_eq_true hw.1
   have hn:d.Cache[i].N.toNat < S.length:=by omega
   have em:=mv_get k1
   have ec:(mvRows d.Cache i).getD i []=d.Cache[i].enc true:=by rw [List.getD_eq_getElem?_getD,em]; rfl
   have ex:=mv_set k1
   have eg:=getS hn
   have es:=setS S d.Cache[i].N.toNat d.Cache[i].B
   try simp -implicitDefEqProofs (maxSteps:=1000000) only [go_sem,q,em,ec,ex,mv_len,take_rows,g8,storeAp,setCells,eg,es,hl2]
   repeat refine ⟨sc,?_⟩
   try exact sf
   refine ⟨(i + 1,S.set d.Cache[i].N.toNat d.Cache[i].B),?_,⟨k1,by rw [he,flushed_step k1]⟩,by simp only; omega⟩
   rw [IntWalk.i64_in _ (by omega)]
   rfl
def x_i_joined:FnX:=⟨18,[.tmp 2],
  .q [.op 2 (.mv (.k (.one (.nils 1))))]
 (.q [.op 6 (.bslice 1 []),.m 3 6]
 (.seq (.q [.m 7 0,.n 8 7,.i 9 0]
 (.block 0 (.loop [3,7,8,9] (.q [.b 10 .lss 9 8]
 (.seq (.cond 10 .skip (.exit 0))
 (.seq (.block 1 (.q [.x 11 1 7 9,.l 12 11,.m 5 12]
 (.reg [.m 13 3,.m 14 5,.op 15 (.app 1 1 (.t 13) (.t 14)),.m 3 15])))
 (.reg [.B 16 .add 9 1,.m 9 16])))))))
 (.norm [3] (.q [.m 17 3,.m 2 17]
 .ret))))⟩
theorem r_i_joined {Te:TE}:C_i_joined (RF Te x_i_joined):=by
 intro ps h h2
 refine run0 ?_
 simp -implicitDefEqProofs (maxSteps:=1000000) only [x_i_joined,go_sem]
 refine loop_of (σ:=Nat×List UInt8) (fun x=>⟨[(3,.one (.rf 19 0 [] 1 0 x.2.length)),(7,.one (.ro 1 (ps.map (bytesR false)))),(8,.one (.pv (.int .i64 ps.length))),(9,.one (.pv (.int .i64 x.1)))],[],[(0,[slT false 1 (bytesR false) ps]),(19,[slT true 1 uR x.2])]⟩) (fun x=>x.1≤ps.length∧x.2=(ps.take x.1).flatten) (fun x=>ps.length - x.1) (0,[]) ?_ ⟨Nat.zero_le _,rfl⟩ ?_
 ·simp -implicitDefEqProofs (maxSteps:=1000000) only [go_sem]; rfl
 ·rintro ⟨i,a⟩ ⟨hi,he⟩
  simp only at hi he
  simp -implicitDefEqProofs (maxSteps:=1000000) only [go_sem]
  refine ⟨fun h=>?_,fun h=>?_⟩
  ·have hi':i < ps.length:=by simp only [decide_eq_true_eq] at h; omega
   simp -implicitDefEqProofs (maxSteps:=1000000) only [go_sem,List.getElem?_eq_getElem hi']
   have hlen:a.length + ps[i].length≤ps.flatten.length:=by
    rw [he,← List.length_append]
    have e:=List.take_succ_eq_append_getElem hi'
    have:(ps.take i).flatten++ps[i]=(ps.take (i + 1)).flatten:=by rw [e,List.flatten_append]; simp
    rw [this]
    have h5:ps.flatten=(ps.take (i + 1)).flatten++(ps.drop (i + 1)).flatten:=by rw [← List.flatten_append,List.take_append_drop]
    rw [h5,List.length_append]
    omega
   refine ⟨⟨decide_eq_true (by omega),decide_eq_true (by omega)⟩,(i + 1,a++ps[i]),?_,⟨hi',?_⟩,by simp only; omega⟩
   ·rw [IntWalk.i64_in _ (by omega)]
    rw [show List.map uR a++List.map uR ps[i]=List.map uR (a++ps[i]) from List.map_append.symm,show a.length + ps[i].length=(a++ps[i]).length from List.length_append.symm]
    rfl
   ·rw [he,List.take_succ_eq_append_getElem hi',List.flatten_append]
    simp
  ·have hle:ps.length≤i:=by simp only [decide_eq_false_iff_not] at h; omega
   rw [List.take_of_length_le hle] at he
   subst he
   simp -implicitDefEqProofs (maxSteps:=1000000) only [go_sem]
def x_i_Sum:FnX:=⟨29,[.tmp 2],
  .q [.i 2 0]
 (.q [.i 3 65535]
 (.seq (.q [.m 6 0,.n 7 6,.i 8 0]
 (.block 0 (.loop [3,6,7,8] (.q [.b 9 .lss 8 7]
 (.seq (.cond 9 .skip (.exit 0))
 (.seq (.block 1 (.q [.x 10 1 6 8,.l 11 10,.m 5 11]
 (.q [.m 12 3,.m 13 5,.op 14 (.conv (.int .i64) (.t 13)),.op 15 (.bin .mul (.i 256) (.t 14)),.b 16 .xor 12 15,.m 3 16]
 (.q [.i 17 0]
 (.block 2 (.loop [3,6,7,8,17] (.q [.B 18 .lss 17 8]
 (.seq (.cond 18 .skip (.exit 2))
 (.seq (.block 3 (.q [.m 19 3,.B 20 .mul 19 2,.m 3 20]
 (.q [.m 21 3,.B 22 .gtr 21 65535]
 (.c 22 (.reg [.m 23 3,.B 24 .xor 23 69665,.m 3 24])))))
 (.reg [.B 25 .add 17 1,.m 17 25]))))))))))
 (.norm [3,6,7,8] (.reg [.B 26 .add 8 1,.m 8 26]))))))))
 (.norm [3] (.q [.m 27 3,.B 28 .and 27 65535,.m 2 28]
 .ret))))⟩
theorem r_i_Sum {Te:TE}:C_i_Sum (RF Te x_i_Sum):=by
 intro l h
 refine run0 ?_
 simp -implicitDefEqProofs (maxSteps:=1000000) only [x_i_Sum,go_sem]
 refine loop_of (σ:=Nat×Nat) (fun x=>⟨[(3,.one (.pv (.int .i64 x.2))),(6,.one (.ro 1 (l.map uR))),(7,.one (.pv (.int .i64 l.length))),(8,.one (.pv (.int .i64 x.1)))],[],[(0,[slT false 1 uR l])]⟩) (fun x=>x.1≤l.length∧x.2 < 65536∧x.2=(l.take x.1).foldl sumByte 65535) (fun x=>l.length - x.1) (0,65535) ?_ ⟨Nat.zero_le _,by decide,rfl⟩ ?_
 ·simp -implicitDefEqProofs (maxSteps:=1000000) only [go_sem]; rfl
 ·rintro ⟨i,s⟩ ⟨hi,hs,he⟩
  simp only at hi hs he
  simp -implicitDefEqProofs (maxSteps:=1000000) only [go_sem]
  refine ⟨fun h=>?_,fun h=>?_⟩
  ·have hi':i < l.length:=by simp only [decide_eq_true_eq] at h; omega
   have hb:=l[i].toNat_lt
   have e1:IntKind.i64.wrap (l[i].toNat:Int)=(l[i].toNat:Int):=IntWalk.i64_in _ (by omega)
   have e2:IntKind.i64.wrap (256 * (l[i].toNat:Int))=((256 * l[i].toNat:Nat):Int):=by rw [IntWalk.i64_in _ (by omega)]; rfl
   simp -implicitDefEqProofs (maxSteps:=1000000) only [go_sem,List.getElem?_eq_getElem hi',e1,e2,xor_nat s (256 * l[i].toNat) (by omega) (by omega)]
   have hx:=sumX_lt l[i] hs
   have e9:sumByte s l[i]=sumBits 8 (s ^^^ (256 * l[i].toNat)):=rfl
   generalize s ^^^ (256 * l[i].toNat)=S at *
   refine loop_of (σ:=Nat×Nat) (fun x=>⟨[(3,.one (.pv (.int .i64 x.2))),(6,.one (.ro 1 (l.map uR))),(7,.one (.pv (.int .i64 l.length))),(8,.one (.pv (.int .i64 i))),(17,.one (.pv (.int .i64 x.1)))],[],[(0,[slT false 1 uR l])]⟩) (fun x=>x.1≤8∧x.2=sumBits x.1 S) (fun x=>8 - x.1) (0,S) ?_ ⟨Nat.zero_le _,rfl⟩ ?_
   ·simp -implicitDefEqProofs (maxSteps:=1000000) only [go_sem]; rfl
   ·rintro ⟨j,v⟩ ⟨hj,hv⟩
    simp only at hj hv
    have hz:v < 65536:=by rw [hv]; exact sumBits_lt j hx
    have e3:IntKind.i64.wrap ((v:Int) * 2)=((2 * v:Nat):Int):=by rw [IntWalk.i64_in _ (by omega)]; omega
    have e4:=xor_nat (2 * v) 69665 (by omega) (by decide)
    have e5:((69665:Nat):Int)=69665:=rfl
    rw [e5] at e4
    have e6:sumBits (j + 1) S=sumBit v:=by rw [hv]; rfl
    simp -implicitDefEqProofs (maxSteps:=1000000) only [go_sem]
    refine ⟨fun h=>?_,fun h=>?_⟩
    ·have hj':j < 8:=by simp only [decide_eq_true_eq] at h; omega
     simp -implicitDefEqProofs (maxSteps:=1000000) only [go_sem,e3]
     refine ⟨fun h6=>?_,fun h6=>?_⟩
     ·simp -implicitDefEqProofs (maxSteps:=1000000) only [go_sem,e4]
      refine ⟨(j + 1,2 * v ^^^ 69665),by rw [IntWalk.i64_in _ (by omega)]; rfl,⟨hj',?_⟩,by simp only; omega⟩
      rw [e6,sumBit,if_pos (by simp only [decide_eq_true_eq] at h6; omega)]
     ·refine ⟨(j + 1,2 * v),by rw [IntWalk.i64_in _ (by omega)]; rfl,⟨hj',?_⟩,by simp only; omega⟩
      rw [e6,sumBit,if_neg (by simp only [decide_eq_false_iff_not] at h6; omega)]
    ·have hj':j=8:=by simp only [decide_eq_false_iff_not] at h; omega
     subst hj'
     rw [← e9] at hv
     refine ⟨(i + 1,v),by rw [IntWalk.i64_in _ (by omega)]; rfl,⟨hi',hz,?_⟩,by simp only; omega⟩
     simp only
     rw [List.take_succ_eq_append_getElem hi',List.foldl_append,← he,hv,List.foldl_cons,List.foldl_nil]
  ·have hle:l.length≤i:=by simp only [decide_eq_false_iff_not] at h; omega
   rw [List.take_of_length_le hle] at he
   have e7:=and_nat s 65535 (by omega) (by decide)
   have e8:((65535:Nat):Int)=65535:=rfl
   rw [e8] at e7
   simp -implicitDefEqProofs (maxSteps:=1000000) only [go_sem,e7,sum,← he]
def x_i_PutEuc:FnX:=⟨36,[.tmp 4,.tmp 5],
  .q [.op 4 (.mv (.k (.one (.nils 1)))),.F 5]
 (.seq (.q [.m 9 1,.op 10 (.call 57 [0,0,0] [(.t 9),(.i 0),(.i 127)])]
 (.c 10 (.q [.m 11 0,.m 12 1,.op 13 (.conv (.int .u8) (.t 12)),.op 14 (.bslice 1 [(.t 13)]),.op 15 (.bslice 1 [(.t 11),(.t 14)]),.c 16 152 [15],.m 4 16,.T 5]
 .ret)))
 (.q [.m 18 1,.c 19 261 [18],.m 17 19,.e 20 17 0,.e 21 17 1,.e 22 17 2,.m 6 20,.m 7 21,.m 8 22]
 (.seq (.q [.m 23 8,.N 24 23]
 (.c 24 (.q [.m 25 0,.op 26 (.bslice 1 [(.t 25)]),.c 27 152 [26],.m 4 27,.F 5]
 .ret)))
 (.q [.m 28 0,.m 29 6,.op 30 (.conv (.int .u8) (.t 29)),.m 31 7,.op 32 (.conv (.int .u8) (.t 31)),.op 33 (.bslice 1 [(.t 30),(.t 32)]),.op 34 (.bslice 1 [(.t 28),(.t 33)]),.c 35 152 [34],.m 4 35,.T 5]
 .ret))))⟩
theorem r_i_PutEuc {Te:TE} (c_i_within:C_i_within Te) (c_i_joined:C_i_joined Te) (c_i_SignPair:C_i_SignPair Te):C_i_PutEuc (RF Te x_i_PutEuc):=by
 intro b n hb
 refine X0 x_i_PutEuc.eq_1 ?_
 refine C0 (c_i_within _ _ _) ?_
 cases g:win n 0 127
 ·refine G0 ?_
  refine C0 (c_i_SignPair _) ?_
  cases g2:(signPair n).2.2
  ·have e:putEuc b n=(b,false):=by rw [putEuc,g,g2]; rfl
   refine G1 g2 ?_
   refine .of (c_i_joined [b] (by rw [flat1]; omega) (by show 1≤2 ^ 31; decide)) ?_
   try simp -implicitDefEqProofs (maxSteps:=1000000) only [go_sem,flat1,e,take_rows]
   repeat refine ⟨sc,?_⟩
   try exact sf
   try rfl
  ·have e:putEuc b n=(b++[mkU (signPair n).1,mkU (signPair n).2.1],true):=by rw [putEuc,g,g2]; rfl
   try simp -implicitDefEqProofs (maxSteps:=1000000) only [go_sem,g2,mkU_wrap]
   repeat refine ⟨sc,?_⟩
   try exact sf
   refine .of (c_i_joined [b,[mkU (signPair n).1,mkU (signPair n).2.1]] (by rw [flat2,List.length_append]; simp only [List.length_cons,List.length_nil]; omega) (by show 2≤2 ^ 31; decide)) ?_
   try simp -implicitDefEqProofs (maxSteps:=1000000) only [go_sem,flat2,e,take_rows,take1B,take2B]
   repeat refine ⟨sc,?_⟩
   try exact sf
   try rfl
 ·have e:putEuc b n=(b++[mkU n],true):=by rw [putEuc,g]; rfl
  try simp -implicitDefEqProofs (maxSteps:=1000000) only [go_sem,mkU_wrap]
  repeat refine ⟨sc,?_⟩
  try exact sf
  refine .of (c_i_joined [b,[mkU n]] (by rw [flat2,List.length_append]; simp only [List.length_cons,List.length_nil]; omega) (by show 2≤2 ^ 31; decide)) ?_
  try simp -implicitDefEqProofs (maxSteps:=1000000) only [go_sem,flat2,e,take_rows,take1B,take2B]
  repeat refine ⟨sc,?_⟩
  try exact sf
  try rfl
def x_s_PutEuc:FnX:=⟨36,[.tmp 4,.tmp 5],
  .q [.op 4 (.mv (.k (.one (.nils 1)))),.F 5]
 (.q [.op 10 (.bslice 1 []),.m 11 0,.op 12 (.app 1 1 (.t 10) (.t 11)),.m 6 12]
 (.seq (.q [.m 13 1,.op 14 (.call 42 [0,0,0] [(.t 13),(.i 0),(.i 127)])]
 (.c 14 (.q [.m 15 6,.m 16 1,.op 17 (.conv (.int .u8) (.t 16)),.op 18 (.bslice 1 [(.t 17)]),.op 19 (.app 1 1 (.t 15) (.t 18)),.m 4 19,.T 5]
 .ret)))
 (.q [.m 21 1,.c 22 259 [21],.m 20 22,.e 23 20 0,.e 24 20 1,.e 25 20 2,.m 7 23,.m 8 24,.m 9 25]
 (.seq (.q [.m 26 9,.N 27 26]
 (.c 27 (.q [.m 28 6,.m 4 28,.F 5]
 .ret)))
 (.q [.m 29 6,.m 30 7,.op 31 (.conv (.int .u8) (.t 30)),.m 32 8,.op 33 (.conv (.int .u8) (.t 32)),.op 34 (.bslice 1 [(.t 31),(.t 33)]),.op 35 (.app 1 1 (.t 29) (.t 34)),.m 4 35,.T 5]
 .ret)))))⟩
theorem r_s_PutEuc {Te:TE} (c_s_l1In:C_s_l1In Te) (c_s_SignPair:C_s_SignPair Te):C_s_PutEuc (RF Te x_s_PutEuc):=by
 intro b n hb
 refine X0 x_s_PutEuc.eq_1 ?_
 refine C0 (c_s_l1In _ _ _) ?_
 cases g:win n 0 127
 ·refine G0 ?_
  refine C0 (c_s_SignPair _) ?_
  cases g2:(signPair n).2.2
  ·have e:putEuc b n=(b,false):=by rw [putEuc,g,g2]; rfl
   exact F2 g2 e
  ·have e:putEuc b n=(b++[mkU (signPair n).1,mkU (signPair n).2.1],true):=by rw [putEuc,g,g2]; rfl
   try simp -implicitDefEqProofs (maxSteps:=1000000) only [go_sem,g2,mkU_wrap,app2B,take2B,e,take_rows]
   repeat refine ⟨sc,?_⟩
   try exact sf
   try rfl
 ·have e:putEuc b n=(b++[mkU n],true):=by rw [putEuc,g]; rfl
  try simp -implicitDefEqProofs (maxSteps:=1000000) only [go_sem,mkU_wrap,app1B,take1B,e,take_rows]
  repeat refine ⟨sc,?_⟩
  try exact sf
  try rfl
end Go.X

