/- Texts: CVe_3 CVzf_5 CVv CVzr_3 CVzs_3 CUb CVl CVw CVzu CT_3 CVk CVc_2 CVo_2. -/
import Derived.Test.YtmmjaijeeeilcaaGreatDoorD04
set_option linter.unusedVariables false
set_option linter.unusedSimpArgs false
namespace Go.X
set_option maxRecDepth 100000
set_option maxHeartbeats 8000000
def x_Dz:FnX:=⟨106,[.tmp 2],
  .q [.v 1 0,.F 2]
 (.seq (.q [.f 7 1 0,.l 8 7,.c 9 101 [8],.N 10 9,.m 11 10,.z 11 (.f 12 1 5),.z 11 (.l 13 12),.z 11 (.op 14 (.call 120 [0,0,0] [(.t 13),(.i 1),(.i 3)])),.z 11 (.N 15 14),.r 16 11 15,.m 17 16,.z 17 (.L 18 7 1),.z 17 (.c 19 291 [18]),.z 17 (.N 20 19),.z 17 (.m 21 20),.y 21 (.f 22 1 1),.y 21 (.L 23 2 22),.y 21 (.c 24 339 [23]),.y 21 (.N 25 24),.z 17 (.a 26 21 25),.r 27 17 26,.m 28 27,.z 28 (.L 29 7 1),.z 28 (.c 30 196 [29]),.z 28 (.N 31 30),.z 28 (.m 32 31),.y 32 (.f 33 1 3),.y 32 (.L 34 2 33),.y 32 (.c 35 339 [34]),.y 32 (.N 36 35),.z 28 (.a 37 32 36),.r 38 28 37]
 (.c 38 (.q [.F 2]
 .ret)))
 (.q [.f 40 1 1,.L 41 2 40,.c 42 197 [41],.m 39 42,.e 43 39 0,.e 44 39 1,.m 3 43,.m 4 44]
 (.q [.f 46 1 3,.L 47 2 46,.c 48 197 [47],.m 45 48,.e 49 45 0,.e 50 45 1,.m 5 49,.m 6 50]
 (.seq (.block 0 (.q [.L 52 7 1,.c 53 291 [52],.m 54 53,.y 54 (.f 55 1 1),.y 54 (.f 56 55 0),.y 54 (.l 57 56),.y 54 (.op 58 (.call 120 [0,0,0] [(.t 57),(.i 1),(.i 5)])),.y 54 (.N 59 58),.y 54 (.m 60 59),.z 60 (.f 61 1 1),.z 60 (.L 62 2 61),.z 60 (.c 63 286 [62]),.z 60 (.N 64 63),.y 54 (.r 65 60 64),.a 66 54 65,.m 51 66]
 (.cond 51 (.q [.F 2]
 .ret) (.q [.L 68 7 1,.c 69 196 [68],.m 70 69,.y 70 (.f 71 1 3),.y 70 (.f 72 71 0),.y 70 (.l 73 72),.y 70 (.B 74 .neq 73 0),.y 70 (.m 75 74),.z 75 (.m 76 6),.z 75 (.N 77 76),.y 70 (.r 78 75 77),.a 79 70 78,.m 67 79]
 (.cond 67 (.q [.F 2]
 .ret) (.q [.L 81 7 1,.c 82 291 [81],.m 83 82,.y 83 (.m 84 4),.y 83 (.N 85 84),.a 86 83 85,.m 87 86,.y 87 (.f 88 1 6),.y 87 (.l 89 88),.y 87 (.N 90 89),.y 87 (.m 91 90),.z 91 (.L 92 7 1),.z 91 (.c 93 196 [92]),.y 87 (.r 94 91 93),.a 95 87 94,.m 80 95]
 (.c 80 (.q [.F 2]
 .ret))))))))
 (.q [.f 96 1 5,.l 97 96,.B 98 .neq 97 3,.m 99 98,.z 99 (.f 100 1 1),.z 99 (.L 101 2 100),.z 99 (.f 102 1 3),.z 99 (.L 103 2 102),.z 99 (.c 104 340 [101,103]),.r 105 99 104,.m 2 105]
 .ret)))))⟩
theorem r_Dz {Te:TE} (c_De:C_De Te) (c_Fo:C_Fo Te) (c_Gi:C_Gi Te) (c_Gh:C_Gh Te) (c_Gg:C_Gg Te) (c_Cx:C_Cx Te) (c_Cw:C_Cw Te) (c_E1:C_E1 Te):C_Dz (RF Te x_Dz):=by
 intro r h
 obtain ⟨hk,_⟩:=h
 refine X0 x_Dz.eq_1 ?_
 refine C0 (c_De r.Key hk) ?_
 cases g1:nameOk r.Key
 ·have e:=rowOk_name (r:=r) g1
  exact F1 e
 refine G0 ?_
 refine C0 (c_Fo _ _ _) ?_
 cases g2:win r.Has 1 3
 ·have e:=rowOk_has (r:=r) g2
  exact F1 e
 have h3:=win13 g2
 obtain ⟨key,old,new,has,aside⟩:=r
 simp only at h3 g1 hk
 clear g2
 rcases h3 with rfl | rfl | rfl
 ·skip
  have e:=rowOk_1 (o:=old) (n:=new) (a:=aside) g1
  refine G0 ?_
  refine C0 (c_Gi ⟨key,old,new,1,aside⟩ (by simp)) ?_
  refine C0 (c_Gg ⟨key,old,new,1,aside⟩ (by simp)) ?_
  refine C0 (c_Gh new) ?_
  cases n1:new.no
  ·exact F2 n1 e
  refine G1 n1 ?_
  refine C0 (c_Cx old) ?_
  refine C0 (c_Cx new) ?_
  refine C0 (c_Gi ⟨key,old,new,1,aside⟩ (by simp)) ?_
  refine C0 (c_Fo _ _ _) ?_
  cases w:win old.Tag 1 5
  ·have e2:=tag_no w
   exact F3 w e e2
  have t:=tag_yes w
  refine G1 w ?_
  refine C0 (c_Cw old) ?_
  cases o1:old.ok
  ·exact F2 o1 e
  refine G1 o1 ?_
  refine C0 (c_Gg ⟨key,old,new,1,aside⟩ (by simp)) ?_
  refine C0 (c_Gi ⟨key,old,new,1,aside⟩ (by simp)) ?_
  cases o3:old.text.2
  ·cases aside
   ·exact F4 o3 e o1 t
   ·refine G1 o3 ?_
    refine .of (c_Gg ⟨key,old,new,1,true⟩ (by simp)) ?_
    try simp -implicitDefEqProofs (maxSteps:=1000000) only [go_sem,e,o1,t,o3,n1]
    repeat refine ⟨sc,?_⟩
    try exact sf
  ·try simp -implicitDefEqProofs (maxSteps:=1000000) only [go_sem,o3,e,o1,t,n1]
   repeat refine ⟨sc,?_⟩
   try exact sf
 ·skip
  have e:=rowOk_2 (o:=old) (n:=new) (a:=aside) g1
  refine G0 ?_
  refine C0 (c_Gi ⟨key,old,new,2,aside⟩ (by simp)) ?_
  refine C0 (c_Gh old) ?_
  cases o1:old.no
  ·exact F2 o1 e
  refine G1 o1 ?_
  refine C0 (c_Gg ⟨key,old,new,2,aside⟩ (by simp)) ?_
  refine C0 (c_Cx old) ?_
  refine C0 (c_Cx new) ?_
  refine C0 (c_Gi ⟨key,old,new,2,aside⟩ (by simp)) ?_
  refine C0 (c_Gg ⟨key,old,new,2,aside⟩ (by simp)) ?_
  cases n1:(new.Tag==0)
  ·have n1':(new.Tag != 0)=true:=by rw [bne,n1]; rfl
   exact F3 n1' e n1
  have n1':(new.Tag != 0)=false:=by rw [bne,n1]; rfl
  cases n2:new.text.2
  ·exact F3 n1' n2 e
  refine G2 n1' n2 ?_
  exact D4 (c_Gi ⟨key,old,new,2,aside⟩ (by simp)) e o1 n1 n2
 ·skip
  have e:=rowOk_3 (o:=old) (n:=new) (a:=aside) g1
  refine G0 ?_
  refine C0 (c_Gi ⟨key,old,new,3,aside⟩ (by simp)) ?_
  refine C0 (c_Gg ⟨key,old,new,3,aside⟩ (by simp)) ?_
  refine C0 (c_Cx old) ?_
  refine C0 (c_Cx new) ?_
  refine C0 (c_Gi ⟨key,old,new,3,aside⟩ (by simp)) ?_
  refine C0 (c_Fo _ _ _) ?_
  cases w:win old.Tag 1 5
  ·have e2:=tag_no w
   exact F3 w e e2
  have t:=tag_yes w
  refine G1 w ?_
  refine C0 (c_Cw old) ?_
  cases o1:old.ok
  ·exact F2 o1 e
  refine G1 o1 ?_
  refine C0 (c_Gg ⟨key,old,new,3,aside⟩ (by simp)) ?_
  cases n1:(new.Tag==0)
  ·have n1':(new.Tag != 0)=true:=by rw [bne,n1]; rfl
   exact F3 n1' e n1
  have n1':(new.Tag != 0)=false:=by rw [bne,n1]; rfl
  cases n2:new.text.2
  ·exact F3 n1' n2 e
  refine G2 n1' n2 ?_
  refine C0 (c_Gi ⟨key,old,new,3,aside⟩ (by simp)) ?_
  cases o3:old.text.2
  ·cases aside
   ·exact F4 o3 e o1 t
   ·refine G1 o3 ?_
    exact D2 (c_Gg ⟨key,old,new,3,true⟩ (by simp)) e o3
  refine G1 o3 ?_
  refine .of (c_E1 old new) ?_
  try simp -implicitDefEqProofs (maxSteps:=1000000) only [go_sem,e,o1,t,o3,n1,n2]
  repeat refine ⟨sc,?_⟩
  try exact sf
def x_Aa:FnX:=⟨119,[.cell 4 (some 10),.tmp 5,.tmp 6],
  .q [.v 2 0,.v 3 1,.op 4 (.alloc [.nils 1,.nils 2,.i 0,.F,.nils 7,.i 0,.nils 3,.i 0,.i 0,.i 0]),.op 5 (.mv (.k (.one (.nils 8)))),.op 6 (.mv (.k (.one (.nils 6))))]
 (.q [.L 10 10 2,.c 11 60 [10],.op 7 (.alloc [.nils 1,.nils 2,.i 0,.F,.nils 7,.i 0,.nils 3,.i 0,.i 0,.i 0]),.s 100001 10 7 11]
 (.seq (.q [.L 12 10 2,.L 13 8 3,.c 14 61 [12,13],.N 15 14]
 (.c 15 (.q [.L 16 10 7,.s 100002 10 4 16,.op 5 (.mv (.k (.one (.nils 8)))),.op 6 (.mv (.k (.one (.nils 6))))]
 .ret)))
 (.q [.f 17 3 2,.l 18 17,.f 19 3 1,.l 20 19,.f 21 3 3,.l 22 21,.op 23 (.build [.i 0,.i 0,.i 0,.i 0,.e,.e,.i 0,.i 0] [(1,1,(.t 18)),(2,1,(.t 20)),(3,1,(.t 22))]),.op 8 (.alloc [.i 0,.i 0,.i 0,.i 0,.e,.e,.i 0,.i 0]),.s 100003 8 8 23]
 (.q [.T 9]
 (.seq (.block 0 (.q [.f 25 3 0,.l 26 25,.B 27 .eql 26 1,.m 24 27]
 (.cond 24 (.q [.f 28 8 0,⟨none,none,100004,.store 1 (.t 28) (.i 2)⟩]
 (.reg [.L 30 10 2,.f 31 3 4,.l 32 31,.c 33 22 [30,32],.m 29 33,.e 34 29 0,.e 35 29 1,.f 36 8 5,.s 100005 1 36 34,.f 37 8 7,.s 100006 1 37 35])) (.q [.f 39 3 0,.l 40 39,.B 41 .eql 40 3,.m 42 41,.z 42 (.f 43 3 0),.z 42 (.l 44 43),.z 42 (.B 45 .eql 44 4),.r 46 42 45,.m 38 46]
 (.cond 38 (.q [.L 47 10 2,.L 48 8 3,.L 49 8 8,.c 50 62 [47,48,49],.e 51 50 0,.e 52 50 1,.e 53 50 2,.s 100007 10 4 51,.m 5 52,.m 6 53]
 .ret) (.q [.f 55 3 0,.l 56 55,.B 57 .eql 56 6,.m 58 57,.y 58 (.f 59 3 1),.y 58 (.l 60 59),.y 58 (.B 61 .eql 60 0),.a 62 58 61,.m 54 62]
 (.cond 54 (.q [.L 64 10 2,.f 65 3 6,.l 66 65,.c 67 37 [64,66],.m 63 67,.e 68 63 0,.e 69 63 1,.s 100008 10 7 68,.m 9 69]
 (.draw [.f 70 3 6,.l 71 70,.f 72 8 0,⟨none,none,100009,.store 1 (.t 72) (.i 7)⟩,.f 73 8 6,.s 100010 1 73 71] [[],[0],[],[2],[0,1,2,3],[4,1,3,0,1,2,3]])) (.q [.f 75 3 0,.l 76 75,.B 77 .eql 76 8,.m 78 77,.y 78 (.f 79 3 1),.y 78 (.l 80 79),.y 78 (.B 81 .eql 80 0),.a 82 78 81,.m 83 82,.y 83 (.f 84 3 6),.y 83 (.l 85 84),.y 83 (.f 86 2 0),.y 83 (.f 87 86 4),.y 83 (.f 88 87 1),.y 83 (.l 89 88),.y 83 (.b 90 .eql 85 89),.a 91 83 90,.m 74 91]
 (.cond 74 (.q [.L 93 10 2,.f 94 3 4,.l 95 94,.c 96 20 [93,95],.m 92 96,.e 97 92 0,.e 98 92 1,.e 99 92 2,.e 100 92 3,.s 100011 10 7 97,.f 101 8 4,.s 100012 1 101 98,.f 102 8 7,.s 100013 1 102 99,.m 9 100]
 (.draw [.f 103 3 6,.l 104 103,.f 105 8 0,⟨none,none,100014,.store 1 (.t 105) (.i 9)⟩,.f 106 8 6,.s 100015 1 106 104] [[],[0],[],[2],[0,1,2,3],[4,1,3,0,1,2,3]])) (.reg [.F 9]))))))))))
 (.seq (.q [.m 107 9,.N 108 107,.m 109 108,.z 109 (.f 110 7 0),.z 109 (.f 111 110 0),.z 109 (.f 112 111 3),.z 109 (.l 113 112),.r 114 109 113]
 (.c 114 (.q [.L 115 10 7,.s 100016 10 4 115,.op 5 (.mv (.k (.one (.nils 8)))),.op 6 (.mv (.k (.one (.nils 6))))]
 .ret)))
 (.seq (.draw [.L 116 10 7,.L 117 8 8,.op 118 (.bslice 8 [(.t 117)]),.s 100017 10 4 116,.m 5 118,.op 6 (.mv (.k (.one (.nils 6))))] [[],[],[1],[0,0],[2,3,0,1,2,3],[4,0,1,2,3,4]])
 .ret)))))))⟩
theorem r_Aa {Te:TE} (c_Br:C_Br Te) (c_Bm:C_Bm Te) (c_Ap:C_Ap Te) (c_Bw:C_Bw Te) (c_Ar:C_Ar Te) (c_At:C_At Te):C_Aa (RF Te x_Aa):=by
 intro n m hn hm
 have hL:=hn.len (by decide)
 refine X0 x_Aa.eq_1 ?_
 refine C0 (c_Br n hL) ?_
 refine C0 (c_Bm n m hn) ?_
 cases g:(m.ok&&win m.To 3 4&&n.up)
 ·have e:n.desk m=(n,[],[]):=by rw [NodeV.desk,g]; rfl
  exact F1 e
 have hu:n.up=true:=by simp only [Bool.and_eq_true] at g; exact g.2
 obtain ⟨u1,u2,_⟩:=up_ok hu
 refine G0 ?_
 cases k1:(m.Kind==1)
 rotate_left
 ·have e:n.desk m=(n,[⟨2,m.To,m.From,m.Seq,⟨#[]⟩,(n.get m.Key).1,0,(n.get m.Key).2⟩],[]):=by rw [NodeV.desk,g,k1]; rfl
  refine G1 k1 ?_
  refine C0 (c_Ap n m.Key (hn.mono (by decide))) ?_
  try simp -implicitDefEqProofs (maxSteps:=1000000) only [go_sem,u2,e,take_all,take_marks,NodeV.enc]
  repeat refine ⟨sc,?_⟩
  try exact sf
  try rfl
 cases k3:(m.Kind==3)
 rotate_left
 ·have e:n.desk m=n.deskPut m (back m 0):=by rw [NodeV.desk,g,k1,k3]; rfl
  refine G2 k1 k3 ?_
  exact D1 (c_Bw n m (back m 0) hn hm) e
 cases k4:(m.Kind==4)
 rotate_left
 ·have e:n.desk m=n.deskPut m (back m 0):=by rw [NodeV.desk,g,k1,k3,k4]; rfl
  refine G3 k1 k3 k4 ?_
  exact D1 (c_Bw n m (back m 0) hn hm) e
 cases f0:(m.From==0)
 ·have e:n.desk m=(n,[],[]):=by rw [NodeV.desk,g,k1,k3,k4,f0]; rfl
  cases k6:(m.Kind==6) <;> cases k8:(m.Kind==8)
  all_goals
   try simp -implicitDefEqProofs (maxSteps:=1000000) only [go_sem,k1,k3,k4,k6,k8,f0,e,take_all,take_marks]
   repeat refine ⟨sc,?_⟩
   try exact sf
   try rfl
 cases k6:(m.Kind==6)
 rotate_left
 ·have e:n.desk m=((n.deskPhase m).1,(n.deskPhase m).2,[]):=by rw [NodeV.desk,g,k1,k3,k4,f0,k6]; rfl
  try simp -implicitDefEqProofs (maxSteps:=1000000) only [go_sem,k1,k3,k4,k6,f0]
  repeat refine ⟨sc,?_⟩
  try exact sf
  refine C0 (c_Ar n m.N hn) ?_
  cases g1:(n.phase m.N).2
  ·have e2:n.deskPhase m=((n.phase m.N).1,[]):=by rw [NodeV.deskPhase,g1]; rfl
   exact F3 g1 e e2
  cases g2:(n.phase m.N).1.S.D.Down
  ·have e2:n.deskPhase m=((n.phase m.N).1,[⟨7,m.To,m.From,m.Seq,⟨#[]⟩,⟨#[]⟩,m.N,0⟩]):=by rw [NodeV.deskPhase,g1,g2]; rfl
   try simp -implicitDefEqProofs (maxSteps:=1000000) only [go_sem,g1,g2,e,e2,take_all,take_marks,NodeV.enc]
   repeat refine ⟨sc,?_⟩
   try exact sf
   try rfl
  ·have e2:n.deskPhase m=((n.phase m.N).1,[]):=by rw [NodeV.deskPhase,g1,g2]; rfl
   try simp -implicitDefEqProofs (maxSteps:=1000000) only [go_sem,g1,g2,e,e2,take_all,take_marks,NodeV.enc]
   repeat refine ⟨sc,?_⟩
   try exact sf
   try rfl
 cases k8:(m.Kind==8)
 ·have e:n.desk m=(n,[],[]):=by rw [NodeV.desk,g,k1,k3,k4,f0,k6,k8]; rfl
  try simp -implicitDefEqProofs (maxSteps:=1000000) only [go_sem,k1,k3,k4,k6,k8,f0,e,take_all,take_marks]
  repeat refine ⟨sc,?_⟩
  try exact sf
  try rfl
 cases kN:(m.N==n.S.T.Phase)
 ·have e:n.desk m=(n,[],[]):=by rw [NodeV.desk,g,k1,k3,k4,f0,k6,k8,kN]; rfl
  try simp -implicitDefEqProofs (maxSteps:=1000000) only [go_sem,k1,k3,k4,k6,k8,f0,kN,e,take_all,take_marks]
  repeat refine ⟨sc,?_⟩
  try exact sf
  try rfl
 have e:n.desk m=((n.deskStep m).1,(n.deskStep m).2,[]):=by rw [NodeV.desk,g,k1,k3,k4,f0,k6,k8,kN]; rfl
 try simp -implicitDefEqProofs (maxSteps:=1000000) only [go_sem,k1,k3,k4,k6,k8,f0,kN]
 repeat refine ⟨sc,?_⟩
 try exact sf
 refine C0 (c_At n m.Key hn) ?_
 cases g1:(n.step m.Key).2.2.2
 ·have e2:n.deskStep m=((n.step m.Key).1,[]):=by rw [NodeV.deskStep,g1]; rfl
  exact F3 g1 e e2
 ·have g2:=step_up hu g1
  have e2:n.deskStep m=((n.step m.Key).1,[⟨9,m.To,m.From,m.Seq,(n.step m.Key).2.1,⟨#[]⟩,m.N,(n.step m.Key).2.2.1⟩]):=by rw [NodeV.deskStep,g1]; rfl
  try simp -implicitDefEqProofs (maxSteps:=1000000) only [go_sem,g1,g2,e,e2,take_all,take_marks,NodeV.enc]
  repeat refine ⟨sc,?_⟩
  try exact sf
  try rfl
def x_Aj:FnX:=⟨22,[.cell 4 (some 3),.tmp 5],
  .q [.v 2 0,.op 4 (.alloc [.i 0,.i 0,.i 0]),.F 5]
 (.seq (.q [.f 8 2 2,.l 9 8,.n 10 9,.i 11 0]
 (.block 0 (.loop [1,4,9,10,11] (.q [.b 12 .lss 11 10]
 (.seq (.cond 12 .skip (.exit 0))
 (.seq (.block 1 (.q [.x 13 3 9 11,.L 14 3 13,.op 7 (.alloc [.i 0,.i 0,.i 0]),.s 100001 3 7 14]
 (.q [.f 15 7 0,.l 16 15,.m 17 1,.b 18 .eql 16 17]
 (.c 18 (.q [.L 19 3 7,.s 100002 3 4 19,.T 5]
 .ret)))))
 (.reg [.B 20 .add 11 1,.m 11 20])))))))
 (.norm [4] (.q [.op 21 (.build [.i 0,.i 0,.i 0] []),.s 100003 3 4 21,.F 5]
 .ret)))⟩
theorem r_Aj {Te:TE}:C_Aj (RF Te x_Aj):=by
 intro t who hl
 refine X0 x_Aj.eq_1 ?_
 refine loop_of (σ:=Nat) (fun i=>⟨[(1,.one (.pv (.int .i64 who))),(4,.bp 4 0),(9,.one (.ro 3 (t.Marks.map MarkV.row))),(10,.one (.pv (.int .i64 t.Marks.length))),(11,.one (.pv (.int .i64 i)))],[(4,[.pv (.int .i64 0),.pv (.int .i64 0),.pv (.int .i64 0)])],[(0,t.enc false),(1,[iT who])]⟩) (fun i=>i≤t.Marks.length∧∀ j (hj:j < t.Marks.length),j < i→(t.Marks[j].Who==who)=false) (fun i=>t.Marks.length - i) 0 ?_ ⟨Nat.zero_le _,fun j _ h=>absurd h (Nat.not_lt_zero _)⟩ ?_
 ·simp -implicitDefEqProofs (maxSteps:=1000000) only [go_sem]
  try rfl
 ·rintro i ⟨hi,hp⟩
  cases q:decide ((i:Int) < (t.Marks.length:Int))
  ·have e:=markAt_none (i:=i) (by simp only [decide_eq_false_iff_not] at q; omega) hp
   exact F2 q e
  ·have k1:i < t.Marks.length:=by simp only [decide_eq_true_eq] at q; omega
   cases g:(t.Marks[i].Who==who)
   ·refine G3 q (List.getElem?_eq_getElem k1) g ?_
    refine ⟨i + 1,?_,⟨k1,markAt_step k1 hp g⟩,by omega⟩
    rw [IntWalk.i64_in _ (by omega)]
    rfl
   ·have e:=markAt_hit k1 hp g
    exact F4 q (List.getElem?_eq_getElem k1) g e
def x_Db:FnX:=⟨28,[.cell 4 (some 3),.tmp 5],
  .q [.v 2 0,.op 4 (.alloc [.i 0,.i 0,.i 0]),.F 5]
 (.seq (.q [.i 6 0]
 (.block 0 (.loop [1,2,4,6] (.seq (.q [.m 7 6,.f 8 2 2,.l 9 8,.n 10 9,.b 11 .lss 7 10]
 (.cond 11 .skip (.exit 0)))
 (.seq (.block 1 (.q [.f 14 2 2,.l 15 14,.m 16 6,.x 17 3 15 16,.f 18 17 0,.l 19 18,.m 20 1,.b 21 .eql 19 20]
 (.c 21 (.q [.f 22 2 2,.l 23 22,.m 24 6,.x 25 3 23 24,.L 26 3 25,.s 100001 3 4 26,.T 5]
 .ret))))
 (.reg [.m 12 6,.B 13 .add 12 1,.m 6 13]))))))
 (.norm [4] (.q [.op 27 (.build [.i 0,.i 0,.i 0] []),.s 100002 3 4 27,.F 5]
 .ret)))⟩
theorem r_Db {Te:TE}:C_Db (RF Te x_Db):=by
 intro t who hl
 refine X0 x_Db.eq_1 ?_
 refine loop_of (σ:=Nat) (fun i=>⟨[(1,.one (.pv (.int .i64 who))),(2,.bp 2 0),(4,.bp 4 0),(6,.one (.pv (.int .i64 i)))],[(2,[.ro 7 (t.Rows.map (RowV.enc false)),.pv (.int .i64 t.Phase),.ro 3 (t.Marks.map MarkV.row)]),(4,[.pv (.int .i64 0),.pv (.int .i64 0),.pv (.int .i64 0)])],[(0,t.enc false),(1,[iT who])]⟩) (fun i=>i≤t.Marks.length∧∀ j (hj:j < t.Marks.length),j < i→(t.Marks[j].Who==who)=false) (fun i=>t.Marks.length - i) 0 ?_ ⟨Nat.zero_le _,fun j _ h=>absurd h (Nat.not_lt_zero _)⟩ ?_
 ·simp -implicitDefEqProofs (maxSteps:=1000000) only [go_sem]
  try rfl
 ·rintro i ⟨hi,hp⟩
  cases q:decide ((i:Int) < (t.Marks.length:Int))
  ·have e:=markAt_none (i:=i) (by simp only [decide_eq_false_iff_not] at q; omega) hp
   exact F2 q e
  ·have k1:i < t.Marks.length:=by simp only [decide_eq_true_eq] at q; omega
   cases g:(t.Marks[i].Who==who)
   ·refine G3 q (List.getElem?_eq_getElem k1) g ?_
    refine ⟨i + 1,?_,⟨k1,markAt_step k1 hp g⟩,by omega⟩
    rw [IntWalk.i64_in _ (by omega)]
    rfl
   ·have e:=markAt_hit k1 hp g
    exact F4 q (List.getElem?_eq_getElem k1) g e
def x_C4:FnX:=⟨11,[.tmp 4],
  .q [.F 4]
 (.q [.m 5 0,.op 6 (.call 90 [0,0,0] [(.t 5),(.i 1),(.i 9)]),.m 7 6,.y 7 (.m 8 1),.y 7 (.op 9 (.call 90 [0,0,0] [(.t 8),(.i 1),(.i 65535)])),.a 10 7 9,.m 4 10]
 .ret)⟩
theorem r_C4 {Te:TE} (c_Ch:C_Ch Te):C_C4 (RF Te x_C4):=by
 intro who seq
 refine X0 x_C4.eq_1 ?_
 refine C0 (c_Ch _ _ _) ?_
 cases g:win who 1 9
 ·exact F0
 ·refine G0 ?_
  exact D0 (c_Ch _ _ _)
def x_Bl:FnX:=⟨34,[.tmp 6,.tmp 7],
  .q [.v 3 0,.i 6 0,.F 7]
 (.q [.f 11 3 0,.f 12 11 4,.L 13 3 12,.m 14 1,.c 15 160 [13,14],.m 10 15,.e 16 10 0,.e 17 10 1,.op 8 (.alloc [.i 0,.i 0,.i 0]),.s 100001 3 8 16,.m 9 17]
 (.seq (.block 0 (.q [.m 19 9,.N 20 19,.m 21 20,.z 21 (.f 22 8 1),.z 21 (.l 23 22),.z 21 (.m 24 2),.z 21 (.b 25 .lss 23 24),.r 26 21 25,.m 18 26]
 (.cond 18 (.q [.i 6 0,.F 7]
 .ret) (.q [.f 28 8 1,.l 29 28,.m 30 2,.b 31 .gtr 29 30,.m 27 31]
 (.c 27 (.q [.i 6 1,.T 7]
 .ret))))))
 (.q [.f 32 8 2,.l 33 32,.m 6 33,.T 7]
 .ret)))⟩
theorem r_Bl {Te:TE} (c_Aj:C_Aj Te):C_Bl (RF Te x_Bl):=by
 intro n who seq hl
 refine X0 x_Bl.eq_1 ?_
 refine C0 (c_Aj n.S.T who hl) ?_
 cases g:markAt n.S.T.Marks who with
 | none =>
  try simp -implicitDefEqProofs (maxSteps:=1000000) only [go_sem,oldOf,Option.isSome_none]
  repeat refine ⟨sc,?_⟩
  try exact sf
  try rfl
 | some m =>
  cases g1:decide (m.Seq < seq)
  ·cases g2:decide (m.Seq > seq)
   ·have g3:(m.Seq==seq)=true:=by simp only [decide_eq_false_iff_not] at g1 g2; simp only [beq_iff_eq]; omega
    try simp -implicitDefEqProofs (maxSteps:=1000000) only [go_sem,oldOf,Option.isSome_some,g1,g2,g3]
    repeat refine ⟨sc,?_⟩
    try exact sf
    try rfl
   ·try simp -implicitDefEqProofs (maxSteps:=1000000) only [go_sem,oldOf,Option.isSome_some,g1,g2]
    repeat refine ⟨sc,?_⟩
    try exact sf
    try rfl
  ·have g2:decide (m.Seq > seq)=false:=by simp only [decide_eq_true_eq] at g1; exact decide_eq_false (by omega)
   have g3:(m.Seq==seq)=false:=by simp only [decide_eq_true_eq] at g1; simp only [beq_eq_false_iff_ne]; omega
   try simp -implicitDefEqProofs (maxSteps:=1000000) only [go_sem,oldOf,Option.isSome_some,g1,g2,g3]
   repeat refine ⟨sc,?_⟩
   try exact sf
   try rfl
def x_F5:FnX:=⟨49,[.tmp 6,.tmp 7],
  .q [.v 3 0,.i 6 0,.F 7]
 (.seq (.q [.L 10 10 3,.c 11 64 [10],.N 12 11,.m 13 12,.z 13 (.m 14 1),.z 13 (.op 15 (.call 120 [0,0,0] [(.t 14),(.i 1),(.i 9)])),.z 13 (.N 16 15),.r 17 13 16,.m 18 17,.z 18 (.m 19 2),.z 18 (.op 20 (.call 120 [0,0,0] [(.t 19),(.i 1),(.i 65535)])),.z 18 (.N 21 20),.r 22 18 21]
 (.c 22 (.q [.i 6 1,.T 7]
 .ret)))
 (.q [.f 24 3 0,.f 25 24 4,.L 26 3 25,.m 27 1,.c 28 78 [26,27],.m 23 28,.e 29 23 0,.e 30 23 1,.op 8 (.alloc [.i 0,.i 0,.i 0]),.s 100001 3 8 29,.m 9 30]
 (.seq (.block 0 (.q [.m 32 9,.m 33 32,.y 33 (.f 34 8 1),.y 33 (.l 35 34),.y 33 (.m 36 2),.y 33 (.b 37 .gtr 35 36),.a 38 33 37,.m 31 38]
 (.cond 31 (.q [.i 6 1,.T 7]
 .ret) (.q [.m 40 9,.m 41 40,.y 41 (.f 42 8 1),.y 41 (.l 43 42),.y 41 (.m 44 2),.y 41 (.b 45 .eql 43 44),.a 46 41 45,.m 39 46]
 (.c 39 (.q [.f 47 8 2,.l 48 47,.m 6 48,.T 7]
 .ret))))))
 (.q [.i 6 0,.F 7]
 .ret))))⟩
theorem r_F5 {Te:TE} (c_F7:C_F7 Te) (c_Fo:C_Fo Te) (c_Db:C_Db Te):C_F5 (RF Te x_F5):=by
 intro n who seq h
 refine X0 x_F5.eq_1 ?_
 refine C0 (c_F7 n h) ?_
 cases g1:n.up
 ·have e:n.old who seq=(1,true):=by rw [NodeV.old,g1]; rfl
  exact F1 e
 refine G0 ?_
 refine C0 (c_Fo _ _ _) ?_
 cases g2:win who 1 9
 ·have e:n.old who seq=(1,true):=by rw [NodeV.old,g1,g2]; rfl
  exact F1 e
 refine G0 ?_
 refine C0 (c_Fo _ _ _) ?_
 cases g3:win seq 1 65535
 ·have e:n.old who seq=(1,true):=by rw [NodeV.old,g1,g2,g3]; rfl
  exact F1 e
 have e:n.old who seq=oldOf (markAt n.S.T.Marks who) seq:=by rw [NodeV.old,g1,g2,g3]; rfl
 refine G0 ?_
 refine C0 (c_Db n.S.T who h.2.2) ?_
 cases g:markAt n.S.T.Marks who with
 | none =>
  try simp -implicitDefEqProofs (maxSteps:=1000000) only [go_sem,e,g,oldOf,Option.isSome_none]
  repeat refine ⟨sc,?_⟩
  try exact sf
  try rfl
 | some m =>
  cases g4:decide (m.Seq > seq)
  ·cases g5:(m.Seq==seq)
   ·try simp -implicitDefEqProofs (maxSteps:=1000000) only [go_sem,e,g,oldOf,Option.isSome_some,g4,g5]
    repeat refine ⟨sc,?_⟩
    try exact sf
    try rfl
   ·try simp -implicitDefEqProofs (maxSteps:=1000000) only [go_sem,e,g,oldOf,Option.isSome_some,g4,g5]
    repeat refine ⟨sc,?_⟩
    try exact sf
    try rfl
  ·try simp -implicitDefEqProofs (maxSteps:=1000000) only [go_sem,e,g,oldOf,Option.isSome_some,g4]
   repeat refine ⟨sc,?_⟩
   try exact sf
   try rfl
def x_Gd:FnX:=⟨41,[.cell 2 (some 7)],
  .q [.op 2 (.alloc [.e,.i 0,.nils 1,.i 0,.nils 1,.i 0,.F])]
 (.q [.m 4 0,.op 5 (.call 353 [5] [(.t 4)]),.op 3 (.alloc [.e,.i 0,.nils 1,.i 0,.nils 1,.i 0,.F]),.s 100001 7 3 5]
 (.seq (.q [.m 6 0,.op 7 (.call 96 [5,0] [(.t 6),(.i 14)])]
 (.block 0 (.q [.B 9 .eql 7 0,.m 8 9]
 (.cond 8 (.reg [.m 10 0,.op 11 (.call 95 [5] [(.t 10)]),.f 12 3 0,.s 100002 1 12 11]) (.q [.B 14 .eql 7 1,.m 13 14]
 (.cond 13 (.reg [.m 15 0,.op 16 (.bslice 1 [(.i 0),(.i 1),(.i 2),(.i 3),(.i 4),(.i (-1))]),.op 17 (.call 70 [5,1] [(.t 15),(.t 16)]),.f 18 3 5,.s 100003 1 18 17]) (.q [.B 20 .eql 7 2,.m 19 20]
 (.cond 19 (.reg [.f 21 3 6,.l 22 21,.N 23 22,.f 24 3 6,.s 100004 1 24 23]) (.q [.B 26 .eql 7 3,.m 25 26]
 (.cond 25 (.reg [.m 27 0,.op 28 (.call 354 [5] [(.t 27)]),.f 29 3 1,.s 100005 2 29 28]) (.q [.B 31 .eql 7 4,.m 30 31]
 (.cond 30 (.reg [.m 32 0,.op 33 (.call 354 [5] [(.t 32)]),.f 34 3 3,.s 100006 2 34 33]) (.q [.B 36 .eql 7 5,.m 35 36]
 (.c 35 (.reg [.op 37 (.bslice 1 [(.k (.one (.pv (.int .u8 129))))]),.f 38 3 1,.f 39 38 1,.s 100007 1 39 37])))))))))))))))
 (.q [.L 40 7 3,.s 100008 7 2 40]
 .ret)))⟩
theorem r_Gd {Te:TE} (c_Gf:C_Gf Te) (c_Fk:C_Fk Te) (c_Fv:C_Fv Te) (c_Fp:C_Fp Te) (c_Ga:C_Ga Te):∀ (c:CurV) (hc:c.ok),∃ r0,(∃ (r:RowV) (d:CurV),(r.In (2 ^ 20)∧d.ok)∧r0=(⟨[.agg (r.enc true)],[d.enc]⟩:Res))∧RunFn Te x_Gd [.ptr c.enc] r0:=by
 intro c hc
 refine some_of (Nat.le_of_ble_eq_true rfl) (by rfl) ?_
 have e:∀ j k:Int,k≠j→(k==j)=false:=fun j k h=>by simpa using h
 simp -implicitDefEqProofs (maxSteps:=1000000) only [x_Gd,go_sem]
 repeat refine ⟨sc,?_⟩
 try exact sf
 obtain ⟨x,d,⟨⟨h0,h1,h2⟩,hd⟩,ht⟩:=c_Gf c hc
 refine C0 (ht) ?_
 obtain ⟨k,d,⟨_,hd⟩,ht⟩:=c_Fk d 14 hd
 by_cases q0:k=0
 ·subst q0
  obtain ⟨r,d,⟨hr,hd⟩,ht1⟩:=c_Fv d hd
  refine C0 (ht) ?_
  refine C0 (ht1) ?_
  exact ⟨⟨r,x.Old,x.New,x.Has,x.Aside⟩,d,⟨⟨by show r.size≤_; omega,h1,h2⟩,hd⟩,rfl⟩
 by_cases q1:k=1
 ·subst q1
  obtain ⟨r,d,⟨_,hd⟩,ht1⟩:=c_Fp d [0,1,2,3,4,-1] hd (by decide)
  refine C0 (ht) ?_
  refine C0 (ht1) ?_
  exact ⟨⟨x.Key,x.Old,x.New,r,x.Aside⟩,d,⟨⟨h0,h1,h2⟩,hd⟩,rfl⟩
 by_cases q2:k=2
 ·subst q2
  refine C0 (ht) ?_
  exact ⟨⟨x.Key,x.Old,x.New,x.Has,!x.Aside⟩,d,⟨⟨h0,h1,h2⟩,hd⟩,rfl⟩
 by_cases q3:k=3
 ·subst q3
  obtain ⟨y,d,⟨hy,hd⟩,ht1⟩:=c_Ga d hd
  refine C0 (ht) ?_
  refine C0 (ht1) ?_
  exact ⟨⟨x.Key,y,x.New,x.Has,x.Aside⟩,d,⟨⟨h0,hy,h2⟩,hd⟩,rfl⟩
 by_cases q4:k=4
 ·subst q4
  obtain ⟨y,d,⟨hy,hd⟩,ht1⟩:=c_Ga d hd
  refine C0 (ht) ?_
  refine C0 (ht1) ?_
  exact ⟨⟨x.Key,x.Old,y,x.Has,x.Aside⟩,d,⟨⟨h0,h1,hy⟩,hd⟩,rfl⟩
 by_cases q5:k=5
 ·subst q5
  refine C0 (ht) ?_
  exact ⟨⟨x.Key,⟨x.Old.Tag,[129]⟩,x.New,x.Has,x.Aside⟩,d,⟨⟨h0,by show 1≤2 ^ 20; decide,h2⟩,hd⟩,rfl⟩
 refine .of (ht) ?_
 try simp -implicitDefEqProofs (maxSteps:=1000000) only [go_sem,e 0 k q0,e 1 k q1,e 2 k q2,e 3 k q3,e 4 k q4,e 5 k q5]
 repeat refine ⟨sc,?_⟩
 try exact sf
 exact ⟨x,d,⟨⟨h0,h1,h2⟩,hd⟩,rfl⟩
def x_Ej:FnX:=⟨44,[.cell 2 (some 13)],
  .q [.op 2 (.alloc [.i 0,.e,.i 0,.nils 1,.i 0,.nils 1,.i 0,.F,.e,.i 0,.i 0,.i 0,.i 0])]
 (.q [.m 4 0,.op 5 (.call 96 [5,0] [(.t 4),(.i 4)]),.op 6 (.bin .add (.i 1) (.t 5)),.op 7 (.build [.i 0,.e,.i 0,.nils 1,.i 0,.nils 1,.i 0,.F,.e,.i 0,.i 0,.i 0,.i 0] [(0,1,(.t 6))]),.op 3 (.alloc [.i 0,.e,.i 0,.nils 1,.i 0,.nils 1,.i 0,.F,.e,.i 0,.i 0,.i 0,.i 0]),.s 100001 13 3 7]
 (.seq (.q [.f 8 3 0,.l 9 8]
 (.block 0 (.q [.B 11 .eql 9 1,.m 10 11]
 (.cond 10 (.reg [.m 12 0,.op 13 (.call 353 [5] [(.t 12)]),.f 14 3 1,.s 100002 7 14 13]) (.q [.B 16 .eql 9 2,.m 15 16]
 (.cond 15 (.reg [.m 17 0,.op 18 (.call 93 [5] [(.t 17)]),.f 19 3 8,.s 100003 1 19 18]) (.q [.B 21 .eql 9 3,.m 20 21]
 (.c 20 (.reg [.m 22 0,.op 23 (.call 96 [5,0] [(.t 22),(.i 8)]),.f 24 3 9,.s 100004 1 24 23])))))))))
 (.seq (.q [.f 25 3 0,.l 26 25,.B 27 .eql 26 4,.m 28 27,.z 28 (.m 29 0),.z 28 (.op 30 (.call 94 [5,0] [(.t 29),(.i 2)])),.r 31 28 30]
 (.c 31 (.q [.m 32 0,.op 33 (.call 96 [5,0] [(.t 32),(.i 3)]),.op 34 (.bin .add (.i 1) (.t 33)),.f 35 3 10,.s 100005 1 35 34]
 (.q [.m 36 0,.op 37 (.bslice 1 [(.i 0),(.i 1),(.i 2),(.i 65535)]),.op 38 (.call 70 [5,1] [(.t 36),(.t 37)]),.f 39 3 11,.s 100006 1 39 38]
 (.reg [.m 40 0,.op 41 (.call 96 [5,0] [(.t 40),(.i 7)]),.f 42 3 12,.s 100007 1 42 41])))))
 (.q [.L 43 13 3,.s 100008 13 2 43]
 .ret))))⟩
theorem r_Ej {Te:TE} (c_Fk:C_Fk Te) (c_Gf:C_Gf Te) (c_Fq:C_Fq Te) (c_Ft:C_Ft Te) (c_Fp:C_Fp Te):∀ (c:CurV) (hc:c.ok),∃ r0,(∃ (r:RecV) (d:CurV),(r.In (2 ^ 20)∧d.ok)∧r0=(⟨[.agg (r.enc true)],[d.enc]⟩:Res))∧RunFn Te x_Ej [.ptr c.enc] r0:=by
 intro c hc
 refine some_of (Nat.le_of_ble_eq_true rfl) (by rfl) ?_
 have hz:=RowV.zero_in (2 ^ 20)
 have w1:IntKind.i64.wrap (1 + 0)=1:=rfl
 have w2:IntKind.i64.wrap (1 + 1)=2:=rfl
 have w3:IntKind.i64.wrap (1 + 2)=3:=rfl
 have w4:IntKind.i64.wrap (1 + 3)=4:=rfl
 simp -implicitDefEqProofs (maxSteps:=1000000) only [x_Ej,go_sem]
 repeat refine ⟨sc,?_⟩
 try exact sf
 obtain ⟨k,d,⟨⟨hk0,hk1,_⟩,hd⟩,ht⟩:=c_Fk c 4 hc
 have hk4:=hk1 (by decide)
 rcases (show k=0∨k=1∨k=2∨k=3 by omega) with rfl | rfl | rfl | rfl
 ·obtain ⟨R,d,⟨hR,hd⟩,ht1⟩:=c_Gf d hd
  obtain ⟨b,d,hd,ht2⟩:=c_Ft d 2 hd
  refine C1 (ht) w1 ?_
  refine C0 (ht1) ?_
  cases b
  ·refine C0 (ht2) ?_
   exact ⟨⟨1,R,⟨#[]⟩,0,0,0,0⟩,d,⟨⟨hR,Nat.zero_le _⟩,hd⟩,rfl⟩
  ·obtain ⟨who,d,⟨_,hd⟩,ht3⟩:=c_Fk d 3 hd
   obtain ⟨seq,d,⟨_,hd⟩,ht4⟩:=c_Fp d [0,1,2,65535] hd (by decide)
   obtain ⟨code,d,⟨_,hd⟩,ht5⟩:=c_Fk d 7 hd
   refine C0 (ht2) ?_
   refine C0 (ht3) ?_
   refine C0 (ht4) ?_
   refine C0 (ht5) ?_
   exact ⟨⟨1,R,⟨#[]⟩,0,IntKind.i64.wrap (1 + who),seq,code⟩,d,⟨⟨hR,Nat.zero_le _⟩,hd⟩,rfl⟩
 ·obtain ⟨key,d,⟨hkey,hd⟩,ht1⟩:=c_Fq d hd
  have hk:key.size≤2 ^ 20:=by omega
  obtain ⟨b,d,hd,ht2⟩:=c_Ft d 2 hd
  refine C1 (ht) w2 ?_
  refine C0 (ht1) ?_
  cases b
  ·refine C0 (ht2) ?_
   exact ⟨⟨2,RowV.zero,key,0,0,0,0⟩,d,⟨⟨hz,hk⟩,hd⟩,rfl⟩
  ·obtain ⟨who,d,⟨_,hd⟩,ht3⟩:=c_Fk d 3 hd
   obtain ⟨seq,d,⟨_,hd⟩,ht4⟩:=c_Fp d [0,1,2,65535] hd (by decide)
   obtain ⟨code,d,⟨_,hd⟩,ht5⟩:=c_Fk d 7 hd
   refine C0 (ht2) ?_
   refine C0 (ht3) ?_
   refine C0 (ht4) ?_
   refine C0 (ht5) ?_
   exact ⟨⟨2,RowV.zero,key,0,IntKind.i64.wrap (1 + who),seq,code⟩,d,⟨⟨hz,hk⟩,hd⟩,rfl⟩
 ·obtain ⟨n,d,⟨_,hd⟩,ht1⟩:=c_Fk d 8 hd
  obtain ⟨b,d,hd,ht2⟩:=c_Ft d 2 hd
  refine C1 (ht) w3 ?_
  refine C0 (ht1) ?_
  cases b
  ·refine C0 (ht2) ?_
   exact ⟨⟨3,RowV.zero,⟨#[]⟩,n,0,0,0⟩,d,⟨⟨hz,Nat.zero_le _⟩,hd⟩,rfl⟩
  ·obtain ⟨who,d,⟨_,hd⟩,ht3⟩:=c_Fk d 3 hd
   obtain ⟨seq,d,⟨_,hd⟩,ht4⟩:=c_Fp d [0,1,2,65535] hd (by decide)
   obtain ⟨code,d,⟨_,hd⟩,ht5⟩:=c_Fk d 7 hd
   refine C0 (ht2) ?_
   refine C0 (ht3) ?_
   refine C0 (ht4) ?_
   refine C0 (ht5) ?_
   exact ⟨⟨3,RowV.zero,⟨#[]⟩,n,IntKind.i64.wrap (1 + who),seq,code⟩,d,⟨⟨hz,Nat.zero_le _⟩,hd⟩,rfl⟩
 ·obtain ⟨who,d,⟨_,hd⟩,ht3⟩:=c_Fk d 3 hd
  obtain ⟨seq,d,⟨_,hd⟩,ht4⟩:=c_Fp d [0,1,2,65535] hd (by decide)
  obtain ⟨code,d,⟨_,hd⟩,ht5⟩:=c_Fk d 7 hd
  refine C1 (ht) w4 ?_
  refine C0 (ht3) ?_
  refine C0 (ht4) ?_
  refine C0 (ht5) ?_
  exact ⟨⟨4,RowV.zero,⟨#[]⟩,0,IntKind.i64.wrap (1 + who),seq,code⟩,d,⟨⟨hz,Nat.zero_le _⟩,hd⟩,rfl⟩
def x_Ed:FnX:=⟨29,[.cell 2 (some 4)],
  .q [.op 2 (.alloc [.nils 1,.nils 2,.i 0,.F])]
 (.q [.m 5 0,.op 6 (.call 96 [5,0] [(.t 5),(.i 6)]),.op 7 (.bin .add (.i 2) (.t 6)),.c 8 210 [7],.op 3 (.alloc [.nils 1,.nils 2,.i 0,.F]),.s 100001 4 3 8]
 (.seq (.q [.m 9 0,.op 10 (.call 96 [5,0] [(.t 9),(.i 8)]),.m 4 10]
 (.block 0 (.loop [0,2,3,4] (.seq (.q [.m 11 4,.B 12 .gtr 11 0]
 (.cond 12 .skip (.exit 0)))
 (.seq (.block 1 (.q [.m 15 0,.op 16 (.call 94 [5,0] [(.t 15),(.i 4)])]
 (.cond 16 (.reg [.op 17 (.call 195 [6] [(.t 3)])]) (.reg [.m 18 0,.f 19 3 0,.l 20 19,.n 21 20,.op 22 (.call 96 [5,0] [(.t 18),(.t 21)]),.m 23 0,.m 24 0,.op 25 (.call 96 [5,0] [(.t 24),(.i 4)]),.op 26 (.call 318 [5,0] [(.t 23),(.t 25)]),.op 27 (.call 192 [6,0,0] [(.t 3),(.t 22),(.t 26)])]))))
 (.reg [.m 13 4,.B 14 .sub 13 1,.m 4 14]))))))
 (.norm [2,3] (.q [.L 28 4 3,.s 100002 4 2 28]
 .ret))))⟩
theorem r_Ed {Te:TE} (c_Fk:C_Fk Te) (c_D1:C_D1 Te) (c_Ft:C_Ft Te) (c_Ee:C_Ee Te) (c_Fn:C_Fn Te) (c_Eg:C_Eg Te):∀ (c:CurV) (hc:c.ok),∃ r0,(∃ (x:DevV) (d:CurV),(x.ok=true∧d.ok)∧r0=(⟨[.agg (x.enc true)],[d.enc]⟩:Res))∧RunFn Te x_Ed [.ptr c.enc] r0:=by
 intro c hc
 refine some_of (Nat.le_of_ble_eq_true rfl) (by rfl) ?_
 simp -implicitDefEqProofs (maxSteps:=1000000) only [x_Ed,go_sem]
 repeat refine ⟨sc,?_⟩
 try exact sf
 obtain ⟨u,d0,⟨⟨hu0,hu1,_⟩,hd0⟩,ht⟩:=c_Fk c 6 hc
 have hu6:=hu1 (by decide)
 have wu:IntKind.i64.wrap (2 + u)=2 + u:=IntWalk.i64_in _ (by omega)
 have hk:=devNew_small hu0 hu6
 refine C1 (ht) wu ?_
 refine C0 (c_D1 (2 + u)) ?_
 obtain ⟨k,d1,⟨⟨hk0,hk1,_⟩,hd1⟩,ht⟩:=c_Fk d0 8 hd0
 have hk2:=hk1 (by decide)
 obtain ⟨K,rfl⟩:∃ K:Nat,k=K:=⟨k.toNat,by omega⟩
 generalize devNew (2 + u)=x0 at hk
 refine C0 (ht) ?_
 refine loop_of (σ:=Nat×DevV×CurV) (fun x=>⟨[(0,.bp 0 0),(2,.bp 2 0),(3,.bp 3 0),(4,.one (.pv (.int .i64 x.1)))],[(0,[.ro 1 (x.2.2.b.map uR),.pv (.int .i64 x.2.2.i),.pv (.int .i64 x.2.2.h)]),(2,[.nils 1,.nils 2,.pv (.int .i64 0),.pv (.bool false)]),(3,[.rf 30 0 [] 1 0 x.2.1.Secs.length,.rf 30 1 [] 2 0 x.2.1.Cache.length,.pv (.int .i64 x.2.1.Fuse),.pv (.bool x.2.1.Down)])],[(0,c.enc),(30,x.2.1.enc true)]⟩) (fun x=>x.1≤K∧x.2.1.ok=true∧x.2.2.ok) (fun x=>x.1) (K,x0,d1) ?_ ⟨Nat.le_refl _,hk,hd1⟩ ?_
 ·simp -implicitDefEqProofs (maxSteps:=1000000) only [go_sem]
  try rfl
 ·rintro ⟨i,x,d⟩ ⟨hi,hx,hd⟩
  simp only at hi hx hd
  cases q:decide ((i:Int) > 0)
  ·refine G1 q ?_
   exact ⟨x,d,⟨hx,hd⟩,rfl⟩
  ·have q':=q
   simp only [decide_eq_true_eq] at q'
   have w2:IntKind.i64.wrap ((i:Int) - 1)=((i - 1:Nat):Int):=by rw [IntWalk.i64_in _ (by omega)]; omega
   obtain ⟨p,d,hd,ht⟩:=c_Ft d 4 hd
   have hC:=DevV.ok_cache hx
   have hI:=(DevV.ok_in hx).1.1
   have hi2:=DevV.ok_idx hx
   refine G1 q ?_
   cases p
   ·obtain ⟨u,d,⟨_,hd⟩,ht1⟩:=c_Fk d (x.Secs.length:Int) hd
    obtain ⟨v,d,⟨⟨hv0,hv1,_⟩,hd⟩,ht2⟩:=c_Fk d 4 hd
    have hv4:=hv1 (by decide)
    obtain ⟨b,d,⟨hb,hd⟩,ht3⟩:=c_Fn d v hd (by omega)
    refine C0 (ht) ?_
    refine C0 (ht1) ?_
    refine C0 (ht2) ?_
    refine C0 (ht3) ?_
    refine C1 (c_Eg x u b ⟨by omega,by omega⟩ (by omega)) w2 ?_
    exact ⟨(i - 1,x.write u b,d),rfl,⟨by simp only; omega,write_ok hx u b,hd⟩,by simp only; omega⟩
   ·refine C0 (ht) ?_
    refine C1 (c_Ee x (by omega) hi2) w2 ?_
    exact ⟨(i - 1,x.flush,d),rfl,⟨by simp only; omega,flush_ok hx,hd⟩,by simp only; omega⟩
def x_Eo:FnX:=⟨24,[.cell 4 (some 3)],
  .q [.op 4 (.alloc [.nils 7,.i 0,.nils 3])]
 (.q [.op 7 (.build [.nils 7,.i 0,.nils 3] []),.op 5 (.alloc [.nils 7,.i 0,.nils 3]),.s 100001 3 5 7]
 (.seq (.q [.m 8 0,.m 9 1,.B 10 .add 9 1,.op 11 (.call 96 [5,0] [(.t 8),(.t 10)]),.m 6 11]
 (.block 0 (.loop [0,4,5,6] (.seq (.q [.m 12 6,.B 13 .gtr 12 0]
 (.cond 13 .skip (.exit 0)))
 (.seq (.block 1 (.draw [.L 17 3 5,.m 18 0,.op 19 (.call 316 [5] [(.t 18)]),.c 20 190 [17,19],.m 16 20,.e 21 16 0,.e 22 16 1,.s 100002 3 5 21] [[],[],[1],[0,2,2],[3],[4],[4],[5,3,0,1,2,3,4,5]]))
 (.reg [.m 14 6,.B 15 .sub 14 1,.m 6 15]))))))
 (.norm [4,5] (.q [.L 23 3 5,.s 100003 3 4 23]
 .ret))))⟩
theorem r_Eo {Te:TE} (c_Fk:C_Fk Te) (c_Ej:C_Ej Te) (c_Cs:C_Cs Te):∀ (c:CurV) (hc:c.ok),∃ r0,(∃ (x:TabV) (d:CurV),(x.ok=true∧d.ok)∧r0=(⟨[.agg (x.enc true)],[d.enc,[iT 4]]⟩:Res))∧RunFn Te x_Eo [.ptr c.enc,.one (iT 4)] r0:=by
 intro c hc
 refine some_of (Nat.le_of_ble_eq_true rfl) (by rfl) ?_
 have w1:IntKind.i64.wrap (4 + 1)=5:=rfl
 simp -implicitDefEqProofs (maxSteps:=1000000) only [x_Eo,go_sem,w1]
 repeat refine ⟨sc,?_⟩
 try exact sf
 obtain ⟨k,d0,⟨⟨hk0,hk1,_⟩,hd0⟩,ht⟩:=c_Fk c 5 hc
 have hk5:=hk1 (by decide)
 obtain ⟨K,rfl⟩:∃ K:Nat,k=K:=⟨k.toNat,by omega⟩
 refine C0 (ht) ?_
 refine loop_of (σ:=Nat×TabV×Bool×List Go.X.T×CurV) (fun x=>cond x.2.2.1 ⟨[(0,.bp 0 0),(4,.bp 4 0),(5,.bp 5 0),(6,.one (.pv (.int .i64 x.1)))],[(0,[.ro 1 (x.2.2.2.2.b.map uR),.pv (.int .i64 x.2.2.2.2.i),.pv (.int .i64 x.2.2.2.2.h)]),(4,[.nils 7,.pv (.int .i64 0),.nils 3]),(5,[.nils 7,.pv (.int .i64 0),.nils 3])],[(0,c.enc),(1,[iT 4])]⟩ ⟨[(0,.bp 0 0),(4,.bp 4 0),(5,.bp 5 0),(6,.one (.pv (.int .i64 x.1)))],[(0,[.ro 1 (x.2.2.2.2.b.map uR),.pv (.int .i64 x.2.2.2.2.i),.pv (.int .i64 x.2.2.2.2.h)]),(4,[.nils 7,.pv (.int .i64 0),.nils 3]),(5,[.rf 26 0 [] 7 0 x.2.1.Rows.length,.pv (.int .i64 x.2.1.Phase),.rf 26 2 [] 3 0 x.2.1.Marks.length])],[(0,c.enc),(1,[iT 4]),(26,slT true 7 (RowV.enc true) x.2.1.Rows::iT x.2.1.Phase::slT true 3 MarkV.row x.2.1.Marks::x.2.2.2.1)]⟩) (fun x=>x.1≤K∧x.2.1.ok=true∧(x.2.2.1=true→x.2.1=TabV.zero)∧x.2.2.2.2.ok) (fun x=>x.1) (K,TabV.zero,true,[],d0) ?_ ⟨Nat.le_refl _,rfl,fun _=>rfl,hd0⟩ ?_
 ·simp -implicitDefEqProofs (maxSteps:=1000000) only [go_sem]
  try rfl
 ·rintro ⟨i,t,b,E,d⟩ ⟨hi,hx,hb,hd⟩
  simp only at hi hx hb hd
  have hT:=TabV.ok_in hx
  cases q:decide ((i:Int) > 0)
  ·cases b
   ·refine G1 q ?_
    exact ⟨t,d,⟨hx,hd⟩,rfl⟩
   ·refine G1 q ?_
    exact ⟨TabV.zero,d,⟨rfl,hd⟩,rfl⟩
  ·have q':=q
   simp only [decide_eq_true_eq] at q'
   have w2:IntKind.i64.wrap ((i:Int) - 1)=((i - 1:Nat):Int):=by rw [IntWalk.i64_in _ (by omega)]; omega
   obtain ⟨r,d,⟨hr,hd⟩,ht⟩:=c_Ej d hd
   cases b
   ·refine G1 q ?_
    refine C0 (ht) ?_
    refine C1 (c_Cs t r hT hr) w2 ?_
    exact ⟨(i - 1,(t.apply r).1,false,[bT (t.apply r).2],d),rfl,⟨by simp only; omega,apply_ok2 r hx,fun h=>Bool.noConfusion h,hd⟩,by simp only; omega⟩
   ·have e:=hb rfl
    subst e
    refine G1 q ?_
    refine C0 (ht) ?_
    refine C1 (c_Cs TabV.zero r hT hr) w2 ?_
    exact ⟨(i - 1,(TabV.zero.apply r).1,false,[bT (TabV.zero.apply r).2],d),rfl,⟨by simp only; omega,apply_ok2 r hx,fun h=>Bool.noConfusion h,hd⟩,by simp only; omega⟩
def x_F9:FnX:=⟨59,[.cell 2 (some 8)],
  .q [.op 2 (.alloc [.i 0,.i 0,.i 0,.i 0,.e,.e,.i 0,.i 0])]
 (.q [.m 4 0,.op 5 (.call 96 [5,0] [(.t 4),(.i 9)]),.op 6 (.bin .add (.i 1) (.t 5)),.m 7 0,.op 8 (.bslice 1 [(.i 0),(.i 1),(.i 2),(.i 31),(.i 65535)]),.op 9 (.call 70 [5,1] [(.t 7),(.t 8)]),.m 10 0,.op 11 (.call 93 [5] [(.t 10)]),.m 12 0,.op 13 (.call 96 [5,0] [(.t 12),(.i 7)]),.m 14 0,.op 15 (.call 96 [5,0] [(.t 14),(.i 8)]),.op 16 (.build [.i 0,.i 0,.i 0,.i 0,.e,.e,.i 0,.i 0] [(0,1,(.t 6)),(3,1,(.t 9)),(4,1,(.t 11)),(7,1,(.t 13)),(6,1,(.t 15))]),.op 3 (.alloc [.i 0,.i 0,.i 0,.i 0,.e,.e,.i 0,.i 0]),.s 100001 8 3 16]
 (.q [.m 17 0,.m 18 0,.op 19 (.call 96 [5,0] [(.t 18),(.i 6)]),.op 20 (.call 106 [5,0,0] [(.t 17),(.t 19),(.i 4)]),.f 21 3 5,.s 100002 1 21 20]
 (.seq (.q [.f 22 3 0,.l 23 22]
 (.block 0 (.seq (.q [.B 29 .eql 23 1,.m 28 29]
 (.cond 28 .skip (.q [.B 30 .eql 23 3,.m 28 30]
 (.cond 28 .skip (.reg [.B 31 .eql 23 4,.m 28 31])))))
 (.cond 28 (.q [.m 32 0,.op 33 (.call 96 [5,0] [(.t 32),(.i 2)]),.op 34 (.bin .add (.i 1) (.t 33)),.f 35 3 1,.s 100003 1 35 34]
 (.reg [.m 36 0,.op 37 (.call 96 [5,0] [(.t 36),(.i 2)]),.op 38 (.bin .add (.i 3) (.t 37)),.f 39 3 2,.s 100004 1 39 38])) (.seq (.q [.B 41 .eql 23 2,.m 40 41]
 (.cond 40 .skip (.reg [.B 42 .eql 23 5,.m 40 42])))
 (.cond 40 (.q [.m 43 0,.op 44 (.call 96 [5,0] [(.t 43),(.i 2)]),.op 45 (.bin .add (.i 3) (.t 44)),.f 46 3 1,.s 100005 1 46 45]
 (.reg [.m 47 0,.op 48 (.call 96 [5,0] [(.t 47),(.i 2)]),.op 49 (.bin .add (.i 1) (.t 48)),.f 50 3 2,.s 100006 1 50 49])) (.seq (.q [.B 52 .eql 23 6,.m 51 52]
 (.cond 51 .skip (.reg [.B 53 .eql 23 8,.m 51 53])))
 (.cond 51 (.reg [.m 54 0,.op 55 (.call 96 [5,0] [(.t 54),(.i 2)]),.op 56 (.bin .add (.i 3) (.t 55)),.f 57 3 2,.s 100007 1 57 56]) (.reg [.m 24 0,.op 25 (.call 96 [5,0] [(.t 24),(.i 2)]),.op 26 (.bin .add (.i 3) (.t 25)),.f 27 3 1,.s 100008 1 27 26])))))))))
 (.q [.L 58 8 3,.s 100009 8 2 58]
 .ret))))⟩
theorem r_F9 {Te:TE} (c_Fk:C_Fk Te) (c_Fp:C_Fp Te) (c_Fq:C_Fq Te) (c_G9:C_G9 Te):∀ (c:CurV) (hc:c.ok),∃ r0,(∃ (m:Msg) (d:CurV),(msgS m∧d.ok)∧r0=(⟨[.agg m.row],[d.enc]⟩:Res))∧RunFn Te x_F9 [.ptr c.enc] r0:=by
 intro c hc
 refine some_of (Nat.le_of_ble_eq_true rfl) (by rfl) ?_
 simp -implicitDefEqProofs only [x_F9,go_sem]
 repeat refine ⟨sc,?_⟩
 try exact sf
 obtain ⟨k,d1,⟨hk,hd1⟩,ht⟩:=c_Fk c 9 hc
 have hk1:=hk.2.1 (by decide)
 obtain ⟨K,wk⟩:∃ K,IntKind.i64.wrap (1 + k)=K:=⟨_,rfl⟩
 refine C1 (ht) wk ?_
 obtain ⟨sq,d2,⟨_,hd2⟩,ht⟩:=c_Fp d1 [0,1,2,31,65535] hd1 (by decide)
 refine C0 (ht) ?_
 obtain ⟨key,d3,⟨hkey,hd3⟩,ht⟩:=c_Fq d2 hd2
 refine C0 (ht) ?_
 obtain ⟨cd,d4,⟨_,hd4⟩,ht⟩:=c_Fk d3 7 hd3
 refine C0 (ht) ?_
 obtain ⟨n,d5,⟨_,hd5⟩,ht⟩:=c_Fk d4 8 hd4
 refine C0 (ht) ?_
 obtain ⟨cs,d6,⟨_,hd6⟩,ht⟩:=c_Fk d5 6 hd5
 refine C0 (ht) ?_
 obtain ⟨tx,d7,⟨htx,hd7⟩,ht⟩:=c_G9 d6 cs 4 hd6 (by decide)
 have hS:∀ a b:Int,msgS ⟨K,a,b,sq,key,tx,n,cd⟩:=fun a b=>⟨by show key.size≤61; omega,by show tx.size≤61; have:tx.size≤4 * 4:=htx; omega⟩
 cases g1:(K==1)
 ·cases g3:(K==3)
  ·cases g4:(K==4)
   ·cases g2:(K==2)
    ·cases g5:(K==5)
     ·cases g6:(K==6)
      ·cases g8:(K==8)
       ·refine .of (ht) ?_
        try simp -implicitDefEqProofs only [go_sem,g1,g2,g3,g4,g5,g6,g8]
        repeat refine ⟨sc,?_⟩
        try exact sf
        obtain ⟨u,e1,⟨_,he1⟩,ht⟩:=c_Fk d7 2 hd7
        refine C0 (ht) ?_
        exact ⟨⟨K,IntKind.i64.wrap (3 + u),0,sq,key,tx,n,cd⟩,e1,⟨hS _ _,he1⟩,rfl⟩
       ·refine .of (ht) ?_
        try simp -implicitDefEqProofs only [go_sem,g1,g2,g3,g4,g5,g6,g8]
        repeat refine ⟨sc,?_⟩
        try exact sf
        obtain ⟨u,e1,⟨_,he1⟩,ht⟩:=c_Fk d7 2 hd7
        refine C0 (ht) ?_
        exact ⟨⟨K,0,IntKind.i64.wrap (3 + u),sq,key,tx,n,cd⟩,e1,⟨hS _ _,he1⟩,rfl⟩
      ·refine .of (ht) ?_
       try simp -implicitDefEqProofs only [go_sem,g1,g2,g3,g4,g5,g6]
       repeat refine ⟨sc,?_⟩
       try exact sf
       obtain ⟨u,e1,⟨_,he1⟩,ht⟩:=c_Fk d7 2 hd7
       refine C0 (ht) ?_
       exact ⟨⟨K,0,IntKind.i64.wrap (3 + u),sq,key,tx,n,cd⟩,e1,⟨hS _ _,he1⟩,rfl⟩
     ·refine .of (ht) ?_
      try simp -implicitDefEqProofs only [go_sem,g1,g2,g3,g4,g5]
      repeat refine ⟨sc,?_⟩
      try exact sf
      obtain ⟨u,e1,⟨_,he1⟩,ht⟩:=c_Fk d7 2 hd7
      refine C0 (ht) ?_
      obtain ⟨v,e2,⟨_,he2⟩,ht⟩:=c_Fk e1 2 he1
      refine C0 (ht) ?_
      exact ⟨⟨K,IntKind.i64.wrap (3 + u),IntKind.i64.wrap (1 + v),sq,key,tx,n,cd⟩,e2,⟨hS _ _,he2⟩,rfl⟩
    ·refine C4 (ht) g1 g2 g3 g4 ?_
     obtain ⟨u,e1,⟨_,he1⟩,ht⟩:=c_Fk d7 2 hd7
     refine C0 (ht) ?_
     obtain ⟨v,e2,⟨_,he2⟩,ht⟩:=c_Fk e1 2 he1
     refine C0 (ht) ?_
     exact ⟨⟨K,IntKind.i64.wrap (3 + u),IntKind.i64.wrap (1 + v),sq,key,tx,n,cd⟩,e2,⟨hS _ _,he2⟩,rfl⟩
   ·refine C3 (ht) g1 g3 g4 ?_
    obtain ⟨u,e1,⟨_,he1⟩,ht⟩:=c_Fk d7 2 hd7
    refine C0 (ht) ?_
    obtain ⟨v,e2,⟨_,he2⟩,ht⟩:=c_Fk e1 2 he1
    refine C0 (ht) ?_
    exact ⟨⟨K,IntKind.i64.wrap (1 + u),IntKind.i64.wrap (3 + v),sq,key,tx,n,cd⟩,e2,⟨hS _ _,he2⟩,rfl⟩
  ·refine C2 (ht) g1 g3 ?_
   obtain ⟨u,e1,⟨_,he1⟩,ht⟩:=c_Fk d7 2 hd7
   refine C0 (ht) ?_
   obtain ⟨v,e2,⟨_,he2⟩,ht⟩:=c_Fk e1 2 he1
   refine C0 (ht) ?_
   exact ⟨⟨K,IntKind.i64.wrap (1 + u),IntKind.i64.wrap (3 + v),sq,key,tx,n,cd⟩,e2,⟨hS _ _,he2⟩,rfl⟩
 ·refine C1 (ht) g1 ?_
  obtain ⟨u,e1,⟨_,he1⟩,ht⟩:=c_Fk d7 2 hd7
  refine C0 (ht) ?_
  obtain ⟨v,e2,⟨_,he2⟩,ht⟩:=c_Fk e1 2 he1
  refine C0 (ht) ?_
  exact ⟨⟨K,IntKind.i64.wrap (1 + u),IntKind.i64.wrap (3 + v),sq,key,tx,n,cd⟩,e2,⟨hS _ _,he2⟩,rfl⟩
def x_D1:FnX:=⟨22,[.cell 2 (some 4)],
  .q [.op 2 (.alloc [.nils 1,.nils 2,.i 0,.F])]
 (.seq (.q [.m 5 0,.op 6 (.call 120 [0,0,0] [(.t 5),(.i 1),(.i 64)]),.N 7 6]
 (.c 7 (.q [.op 8 (.build [.nils 1,.nils 2,.i 0,.F] []),.s 100001 4 2 8]
 .ret)))
 (.q [.op 9 (.build [.nils 1,.nils 2,.i 0,.F] [(2,1,(.i (-1)))]),.op 3 (.alloc [.nils 1,.nils 2,.i 0,.F]),.s 100002 4 3 9]
 (.seq (.q [.i 4 0]
 (.up 3 0 300000 (.block 0 (.loop [0,2,3,4] (.seq (.q [.m 10 4,.m 11 0,.b 12 .lss 10 11]
 (.cond 12 .skip (.exit 0)))
 (.seq (.block 1 (.reg [.f 15 3 0,.l 16 15,.op 17 (.bslice 1 []),.op 18 (.bslice 1 [(.t 17)]),.op 19 (.app 1 24 (.t 16) (.t 18)),.f 20 3 0,.s 100003 1 20 19]))
 (.reg [.m 13 4,.B 14 .add 13 1,.m 4 14])))))))
 (.norm [2,3] (.q [.L 21 4 3,.s 100004 4 2 21]
 .ret)))))⟩
theorem r_D1 {Te:TE} (c_Fo:C_Fo Te):C_D1 (RF Te x_D1):=by
 intro n
 refine X0 x_D1.eq_1 ?_
 refine C0 (c_Fo _ _ _) ?_
 cases g:win n 1 64
 ·have e:devNew n=⟨[],[],0,false⟩:=by rw [devNew,g]; rfl
  exact F1 e
 ·have e:devNew n=⟨List.replicate n.toNat [],[],-1,false⟩:=by rw [devNew,g]; rfl
  have g':=g
  simp only [win,Bool.and_eq_true,decide_eq_true_eq] at g'
  refine G0 ?_
  refine loop_of (σ:=Nat×List (List UInt8)) (fun x=>⟨[(0,.one (.pv (.int .i64 n))),(2,.bp 2 0),(3,.bp 3 0),(4,.one (.pv (.int .i64 x.1)))],[(2,[.nils 1,.nils 2,.pv (.int .i64 0),.pv (.bool false)]),(3,[.rf 23 0 [] 1 0 x.2.length,.nils 2,.pv (.int .i64 (-1)),.pv (.bool false)])],[(0,[iT n]),(23,[slT true 1 (secR true) x.2])]⟩) (fun x=>x.1≤n.toNat∧x.2=List.replicate x.1 []) (fun x=>n.toNat - x.1) (0,[]) ?_ ⟨Nat.zero_le _,rfl⟩ ?_
  ·simp -implicitDefEqProofs (maxSteps:=1000000) only [go_sem]
   try rfl
  ·rintro ⟨i,l⟩ ⟨hi,he⟩
   simp only at hi he
   have hl:l.length=i:=by rw [he,List.length_replicate]
   cases q:decide ((i:Int) < n)
   ·have k0:i=n.toNat:=by simp only [decide_eq_false_iff_not] at q; omega
    have e2:devNew n=⟨l,[],-1,false⟩:=by rw [e,he,k0]
    exact F2 q e2
   ·have k1:i < n.toNat:=by simp only [decide_eq_true_eq] at q; omega
    have ea:List.map (secR true) l++[[Tr.sl true 1 () []]]=List.map (secR true) (l++[[]]):=app1S l []
    refine G2 q ea ?_
    refine ⟨(i + 1,l++[[]]),?_,⟨k1,by rw [he,rep_step]⟩,by simp only; omega⟩
    rw [IntWalk.i64_in _ (by omega)]
    simp only [List.length_append]
    rfl
def x_Bq:FnX:=⟨50,[.cell 2 (some 4)],
  .q [.v 1 0,.op 2 (.alloc [.nils 1,.nils 2,.i 0,.F])]
 (.q [.f 8 1 2,.l 9 8,.f 10 1 3,.l 11 10,.op 12 (.build [.nils 1,.nils 2,.i 0,.F] [(2,1,(.t 9)),(3,1,(.t 11))]),.op 3 (.alloc [.nils 1,.nils 2,.i 0,.F]),.s 100001 4 3 12]
 (.seq (.q [.f 13 1 0,.l 14 13,.n 15 14,.i 16 0]
 (.up 3 1 300001 (.up 3 0 300000 (.block 0 (.loop [1,2,3,14,15,16] (.q [.b 17 .lss 16 15]
 (.seq (.cond 17 .skip (.exit 0))
 (.seq (.block 1 (.q [.x 18 1 14 16,.l 19 18,.m 5 19]
 (.draw [.f 20 3 0,.l 21 20,.m 22 5,.op 23 (.bslice 1 [(.t 22)]),.c 24 100 [23],.op 25 (.bslice 1 [(.t 24)]),.op 26 (.app 1 24 (.t 21) (.t 25)),.f 27 3 0,.s 100002 1 27 26] [[],[0],[],[2],[3],[4],[1,5,4],[0,1,2,3,4,5,6],[7,6,6,0,1,2,3,4,5,6]])))
 (.reg [.B 28 .add 16 1,.m 16 28])))))))))
 (.norm [1,2,3] (.seq (.q [.f 29 1 1,.l 30 29,.n 31 30,.i 32 0]
 (.block 2 (.loop [2,3,30,31,32] (.q [.b 33 .lss 32 31]
 (.seq (.cond 33 .skip (.exit 2))
 (.seq (.block 3 (.q [.x 34 2 30 32,.L 35 2 34,.op 7 (.alloc [.i 0,.nils 1]),.s 100003 2 7 35]
 (.draw [.f 36 3 1,.l 37 36,.f 38 7 0,.l 39 38,.f 40 7 1,.l 41 40,.op 42 (.bslice 1 [(.t 41)]),.c 43 100 [42],.op 44 (.build [.i 0,.nils 1] [(0,1,(.t 39)),(1,1,(.t 43))]),.op 45 (.bslice 2 [(.t 44)]),.op 46 (.app 2 32 (.t 37) (.t 45)),.f 47 3 1,.s 100004 1 47 46] [[],[0],[],[2],[],[4],[5],[6],[3,7],[8],[1,9,7],[0,1,2,3,4,5,6,7,8,9,10],[11,10,10,0,1,2,3,4,5,6,7,8,9,10]])))
 (.reg [.B 48 .add 32 1,.m 32 48])))))))
 (.norm [2,3] (.q [.L 49 4 3,.s 100005 4 2 49]
 .ret))))))⟩
theorem r_Bq {Te:TE} (c_C1:C_C1 Te):C_Bq (RF Te x_Bq):=by
 intro d h
 obtain ⟨⟨hS,hSl⟩,hC,hCl⟩:=h
 refine X0 x_Bq.eq_1 ?_
 refine loop_of (σ:=Nat×List (List UInt8)) (fun x=>⟨[(1,.bp 1 0),(2,.bp 2 0),(3,.bp 3 0),(14,.one (.ro 1 (d.Secs.map (secR false)))),(15,.one (.pv (.int .i64 d.Secs.length))),(16,.one (.pv (.int .i64 x.1)))],[(1,[.ro 1 (d.Secs.map (secR false)),.ro 2 (d.Cache.map (WrV.enc false)),.pv (.int .i64 d.Fuse),.pv (.bool d.Down)]),(2,[.nils 1,.nils 2,.pv (.int .i64 0),.pv (.bool false)]),(3,[.rf 51 0 [] 1 0 x.2.length,.rf 52 0 [] 2 0 0,.pv (.int .i64 d.Fuse),.pv (.bool d.Down)])],[(0,d.enc false),(51,[slT true 1 (secR true) x.2]),(52,[slT true 2 (WrV.enc true) []])]⟩) (fun x=>x.1≤d.Secs.length∧x.2=d.Secs.take x.1) (fun x=>d.Secs.length - x.1) (0,[]) ?_ ⟨Nat.zero_le _,rfl⟩ ?_
 ·simp -implicitDefEqProofs (maxSteps:=1000000) only [go_sem]
  try rfl
 ·rintro ⟨i,l⟩ ⟨hi,he⟩
  simp only at hi he
  have hl:l.length=i:=by rw [he,List.length_take]; omega
  cases q:decide ((i:Int) < (d.Secs.length:Int))
  ·have k0:i=d.Secs.length:=by simp only [decide_eq_false_iff_not] at q; omega
   rw [k0,List.take_length] at he
   subst he
   refine G1 q ?_
   refine loop_of (σ:=Nat×List WrV) (fun x=>⟨[(2,.bp 2 0),(3,.bp 3 0),(30,.one (.ro 2 (d.Cache.map (WrV.enc false)))),(31,.one (.pv (.int .i64 d.Cache.length))),(32,.one (.pv (.int .i64 x.1)))],[(2,[.nils 1,.nils 2,.pv (.int .i64 0),.pv (.bool false)]),(3,[.rf 51 0 [] 1 0 d.Secs.length,.rf 52 0 [] 2 0 x.2.length,.pv (.int .i64 d.Fuse),.pv (.bool d.Down)])],[(0,d.enc false),(51,[slT true 1 (secR true) d.Secs]),(52,[slT true 2 (WrV.enc true) x.2])]⟩) (fun x=>x.1≤d.Cache.length∧x.2=d.Cache.take x.1) (fun x=>d.Cache.length - x.1) (0,[]) ?_ ⟨Nat.zero_le _,rfl⟩ ?_
   ·simp -implicitDefEqProofs (maxSteps:=1000000) only [go_sem]
    try rfl
   ·rintro ⟨j,m⟩ ⟨hj,hm⟩
    simp only at hj hm
    have hml:m.length=j:=by rw [hm,List.length_take]; omega
    cases q2:decide ((j:Int) < (d.Cache.length:Int))
    ·have k2:j=d.Cache.length:=by simp only [decide_eq_false_iff_not] at q2; omega
     rw [k2,List.take_length] at hm
     subst hm
     exact F1 q2
    ·have k2:j < d.Cache.length:=by simp only [decide_eq_true_eq] at q2; omega
     have hb:d.Cache[j].B.length≤2 ^ 21:=hCl _ (List.getElem_mem k2)
     have ea:=app1W m d.Cache[j]
     refine G2 q2 (List.getElem?_eq_getElem k2) ?_
     refine .of (c_C1 [d.Cache[j].B] (by rw [flat1]; omega) (by show 1≤2 ^ 31; decide)) ?_
     try simp -implicitDefEqProofs (maxSteps:=1000000) only [go_sem,flat1,take_all,ea]
     repeat refine ⟨sc,?_⟩
     try exact sf
     refine ⟨(j + 1,m++[d.Cache[j]]),?_,⟨k2,by rw [hm,List.take_succ_eq_append_getElem k2]⟩,by simp only; omega⟩
     rw [IntWalk.i64_in _ (by omega)]
     simp only [List.length_append]
     rfl
  ·have k1:i < d.Secs.length:=by simp only [decide_eq_true_eq] at q; omega
   have hb:d.Secs[i].length≤2 ^ 21:=hSl _ (List.getElem_mem k1)
   have ea:=app1S l d.Secs[i]
   refine G2 q (List.getElem?_eq_getElem k1) ?_
   refine .of (c_C1 [d.Secs[i]] (by rw [flat1]; omega) (by show 1≤2 ^ 31; decide)) ?_
   try simp -implicitDefEqProofs (maxSteps:=1000000) only [go_sem,flat1,take_all,ea]
   repeat refine ⟨sc,?_⟩
   try exact sf
   refine ⟨(i + 1,l++[d.Secs[i]]),?_,⟨k1,by rw [he,List.take_succ_eq_append_getElem k1]⟩,by simp only; omega⟩
   rw [IntWalk.i64_in _ (by omega)]
   simp only [List.length_append]
   rfl
def x_Bo:FnX:=⟨32,[.cell 10 (some 10),.tmp 11,.tmp 12],
  .q [.v 5 0,.v 8 3,.op 10 (.alloc [.nils 1,.nils 2,.i 0,.F,.nils 7,.i 0,.nils 3,.i 0,.i 0,.i 0]),.i 11 0,.F 12]
 (.q [.m 15 1,.m 16 2,.m 17 4,.f 18 8 10,.s 100001 1 18 15,.f 19 8 11,.s 100002 1 19 16,.f 20 8 12,.s 100003 1 20 17]
 (.q [.L 22 10 5,.L 23 13 8,.c 24 86 [22,23],.m 21 24,.e 25 21 0,.e 26 21 1,.op 13 (.alloc [.nils 1,.nils 2,.i 0,.F,.nils 7,.i 0,.nils 3,.i 0,.i 0,.i 0]),.s 100004 10 13 25,.m 14 26]
 (.seq (.q [.m 27 14,.N 28 27]
 (.c 28 (.q [.L 29 10 13,.s 100005 10 10 29,.i 11 5,.F 12]
 .ret)))
 (.q [.L 30 10 13,.m 31 4,.s 100006 10 10 30,.m 11 31,.T 12]
 .ret))))⟩
theorem r_Bo {Te:TE} (c_Bk:C_Bk Te):C_Bo (RF Te x_Bo):=by
 intro n who seq r code hn hr
 refine X0 x_Bo.eq_1 ?_
 refine C0 (c_Bk n (r.by who seq code) hn hr) ?_
 cases g:(n.S.add (r.by who seq code)).2
 ·try simp -implicitDefEqProofs (maxSteps:=1000000) only [go_sem,g,NodeV.changed,NodeV.added,take_all,take_marks,NodeV.enc]
  repeat refine ⟨sc,?_⟩
  try exact sf
  try rfl
 ·try simp -implicitDefEqProofs (maxSteps:=1000000) only [go_sem,g,NodeV.changed,NodeV.added,take_all,take_marks,NodeV.enc]
  repeat refine ⟨sc,?_⟩
  try exact sf
  try rfl
def x_Bv:FnX:=⟨21,[.cell 4 (some 13),.tmp 5],
  .q [.v 2 0,.op 4 (.alloc [.i 0,.e,.i 0,.nils 1,.i 0,.nils 1,.i 0,.F,.e,.i 0,.i 0,.i 0,.i 0]),.i 5 0]
 (.seq (.block 0 (.q [.m 7 1,.c 8 98 [7],.N 9 8,.m 6 9]
 (.cond 6 (.q [.op 10 (.build [.i 0,.e,.i 0,.nils 1,.i 0,.nils 1,.i 0,.F,.e,.i 0,.i 0,.i 0,.i 0] [(0,1,(.i 4))]),.s 100001 13 4 10,.i 5 1]
 .ret) (.q [.f 12 2 0,.f 13 12 4,.L 14 3 13,.m 15 1,.c 16 87 [14,15],.B 17 .lss 16 0,.m 11 17]
 (.c 11 (.q [.op 18 (.build [.i 0,.e,.i 0,.nils 1,.i 0,.nils 1,.i 0,.F,.e,.i 0,.i 0,.i 0,.i 0] [(0,1,(.i 4))]),.s 100002 13 4 18,.i 5 2]
 .ret))))))
 (.q [.m 19 1,.op 20 (.build [.i 0,.e,.i 0,.nils 1,.i 0,.nils 1,.i 0,.F,.e,.i 0,.i 0,.i 0,.i 0] [(0,1,(.i 2)),(8,1,(.t 19))]),.s 100003 13 4 20,.i 5 0]
 .ret))⟩
theorem r_Bv {Te:TE} (c_Am:C_Am Te) (c_B3:C_B3 Te):C_Bv (RF Te x_Bv):=by
 intro n key hn hk
 refine X0 x_Bv.eq_1 ?_
 refine C0 (c_Am key hk) ?_
 cases g:nameOk key
 ·have e:n.delCode key=1:=by rw [NodeV.delCode,g]; rfl
  exact F1 e
 refine G0 ?_
 refine C0 (c_B3 n.S.T key hn) ?_
 cases g2:decide (rowAt n.S.T.Rows key < 0)
 ·have e:n.delCode key=0:=by rw [NodeV.delCode,g,g2]; rfl
  exact F2 e g2
 ·have e:n.delCode key=2:=by rw [NodeV.delCode,g,g2]; rfl
  exact F2 e g2
def x_Ao:FnX:=⟨51,[.cell 8 (some 10),.tmp 9,.tmp 10],
  .q [.v 4 0,.op 8 (.alloc [.nils 1,.nils 2,.i 0,.F,.nils 7,.i 0,.nils 3,.i 0,.i 0,.i 0]),.i 9 0,.F 10]
 (.seq (.q [.L 14 10 4,.c 15 82 [14],.N 16 15,.m 17 16,.z 17 (.m 18 1),.z 17 (.m 19 2),.z 17 (.c 20 72 [18,19]),.z 17 (.N 21 20),.r 22 17 21]
 (.c 22 (.q [.L 23 10 4,.c 24 60 [23],.s 100001 10 8 24,.i 9 1,.F 10]
 .ret)))
 (.q [.L 26 10 4,.m 27 1,.m 28 2,.c 29 73 [26,27,28],.m 25 29,.e 30 25 0,.e 31 25 1,.m 11 30,.m 12 31]
 (.seq (.q [.m 32 12]
 (.c 32 (.q [.L 33 10 4,.c 34 60 [33],.m 35 11,.s 100002 10 8 34,.m 9 35,.F 10]
 .ret)))
 (.q [.L 37 10 4,.m 38 3,.c 39 74 [37,38],.m 36 39,.e 40 36 0,.e 41 36 1,.op 13 (.alloc [.i 0,.e,.i 0,.nils 1,.i 0,.nils 1,.i 0,.F,.e,.i 0,.i 0,.i 0,.i 0]),.s 100003 13 13 40,.m 11 41]
 (.q [.L 42 10 4,.m 43 1,.m 44 2,.L 45 13 13,.m 46 11,.c 47 91 [42,43,44,45,46],.e 48 47 0,.e 49 47 1,.e 50 47 2,.s 100004 10 8 48,.m 9 49,.m 10 50]
 .ret)))))⟩
theorem r_Ao {Te:TE} (c_Bz:C_Bz Te) (c_C4:C_C4 Te) (c_Br:C_Br Te) (c_Bl:C_Bl Te) (c_Bv:C_Bv Te) (c_Bo:C_Bo Te):C_Ao (RF Te x_Ao):=by
 intro n who seq key hn hk
 have hL:=hn.len (by decide)
 refine X0 x_Ao.eq_1 ?_
 refine C0 (c_Bz n (hn.mono (by decide))) ?_
 cases g1:n.up
 ·have e:n.del who seq key=(n,1,false):=by rw [NodeV.del,old_no (by rw [g1]; rfl)]; rfl
  refine G0 ?_
  exact D1 (c_Br n hL) e
 refine G0 ?_
 refine C0 (c_C4 _ _) ?_
 cases g2:(win who 1 9&&win seq 1 65535)
 ·have e:n.del who seq key=(n,1,false):=by rw [NodeV.del,old_no (by rw [g1,g2]; rfl)]; rfl
  refine G1 g2 ?_
  exact D1 (c_Br n hL) e
 have eo:=old_yes g1 g2
 refine G1 g2 ?_
 refine .of (c_Bl n _ _ (by have:=hn.2.2; omega)) ?_
 try simp -implicitDefEqProofs (maxSteps:=1000000) only [go_sem]
 repeat refine ⟨sc,?_⟩
 try exact sf
 rw [← eo]
 cases g3:(n.old who seq).2
 rotate_left
 ·have e:n.del who seq key=(n,(n.old who seq).1,false):=by rw [NodeV.del,g3]; rfl
  refine G1 g3 ?_
  exact D1 (c_Br n hL) e
 have e:n.del who seq key=n.changed ((delRec (n.delCode key) key).by who seq (n.delCode key)):=by rw [NodeV.del,g3,delRec_by]; rfl
 refine G1 g3 ?_
 refine C0 (c_Bv n key (by have:=hn.2.1.1; omega) (by omega)) ?_
 exact D1 (c_Bo n who seq (delRec (n.delCode key) key) (n.delCode key) hn (delRec_in _ hk)) e
def x_Ar:FnX:=⟨33,[.cell 4 (some 10),.tmp 5],
  .q [.v 2 0,.op 4 (.alloc [.nils 1,.nils 2,.i 0,.F,.nils 7,.i 0,.nils 3,.i 0,.i 0,.i 0]),.F 5]
 (.q [.L 7 10 2,.c 8 60 [7],.op 6 (.alloc [.nils 1,.nils 2,.i 0,.F,.nils 7,.i 0,.nils 3,.i 0,.i 0,.i 0]),.s 100001 10 6 8]
 (.seq (.q [.L 9 10 2,.c 10 82 [9],.N 11 10]
 (.c 11 (.q [.L 12 10 6,.s 100002 10 4 12,.F 5]
 .ret)))
 (.seq (.q [.f 13 2 0,.f 14 13 4,.f 15 14 1,.l 16 15,.m 17 1,.c 18 112 [16,17]]
 (.c 18 (.reg [.L 20 10 2,.m 21 1,.op 22 (.build [.i 0,.e,.i 0,.nils 1,.i 0,.nils 1,.i 0,.F,.e,.i 0,.i 0,.i 0,.i 0] [(0,1,(.i 3)),(9,1,(.t 21))]),.c 23 86 [20,22],.m 19 23,.e 24 19 0,.e 25 19 1,.s 100003 10 6 24])))
 (.seq (.draw [.L 26 10 6,.f 27 6 0,.f 28 27 4,.f 29 28 1,.l 30 29,.m 31 1,.b 32 .eql 30 31,.s 100004 10 4 26,.m 5 32] [[],[],[1],[2],[3],[],[4,5],[0,0],[6,7,0,1,2,3,4,5,6,7]])
 .ret))))⟩
theorem r_Ar {Te:TE} (c_Br:C_Br Te) (c_Bz:C_Bz Te) (c_An:C_An Te) (c_Bk:C_Bk Te):C_Ar (RF Te x_Ar):=by
 intro n p hn
 have hL:=hn.len (by decide)
 refine X0 x_Ar.eq_1 ?_
 refine C0 (c_Br n hL) ?_
 refine C0 (c_Bz n (hn.mono (by decide))) ?_
 cases g1:n.up
 ·have e:n.phase p=(n,false):=by rw [NodeV.phase,g1]; rfl
  exact F1 e
 have e:n.phase p=(n.phase1 p,(n.phase1 p).S.T.Phase==p):=by rw [NodeV.phase,g1]; rfl
 refine G0 ?_
 refine C0 (c_An _ _) ?_
 cases g2:nextOk n.S.T.Phase p
 ·have e1:n.phase1 p=n:=by rw [NodeV.phase1,g2]; rfl
  exact F2 e e1
 ·have e1:n.phase1 p=n.added (recPh p):=by rw [NodeV.phase1,g2]; rfl
  refine G0 ?_
  refine .of (c_Bk n (recPh p) hn (recPh_in p _)) ?_
  try simp -implicitDefEqProofs (maxSteps:=1000000) only [go_sem,e,e1,NodeV.added,take_all,take_marks]
  repeat refine ⟨sc,?_⟩
  try exact sf
  try rfl
def x_Ak:FnX:=⟨79,[.tmp 4],
  .q [.v 2 0,.v 3 1,.op 4 (.mv (.k (.one (.nils 6))))]
 (.seq (.q [.L 12 10 2,.L 13 8 3,.c 14 61 [12,13],.N 15 14,.m 16 15,.z 16 (.f 17 3 0),.z 16 (.l 18 17),.z 16 (.B 19 .neq 18 3),.z 16 (.m 20 19),.y 20 (.f 21 3 0),.y 20 (.l 22 21),.y 20 (.B 23 .neq 22 4),.z 16 (.a 24 20 23),.r 25 16 24,.m 26 25,.z 26 (.f 27 3 1),.z 26 (.l 28 27),.z 26 (.f 29 3 3),.z 26 (.l 30 29),.z 26 (.c 31 72 [28,30]),.z 26 (.N 32 31),.r 33 26 32]
 (.c 33 (.q [.op 4 (.mv (.k (.one (.nils 6))))]
 .ret)))
 (.q [.L 35 10 2,.f 36 3 1,.l 37 36,.f 38 3 3,.l 39 38,.c 40 73 [35,37,39],.m 34 40,.e 41 34 0,.e 42 34 1,.m 5 41,.m 6 42]
 (.q [.L 44 10 2,.L 45 8 3,.c 46 11 [44,45],.m 43 46,.e 47 43 0,.e 48 43 1,.e 49 43 2,.op 7 (.alloc [.nils 1,.nils 2,.i 0,.F,.nils 7,.i 0,.nils 3,.i 0,.i 0,.i 0]),.s 100001 10 7 47,.m 8 48,.m 9 49]
 (.seq (.q [.m 50 6,.m 51 50,.z 51 (.m 52 9),.z 51 (.n 53 52),.z 51 (.B 54 .gtr 53 0),.r 55 51 54]
 (.c 55 (.q [.op 4 (.mv (.k (.one (.nils 6))))]
 .ret)))
 (.q [.L 57 10 2,.f 58 3 4,.l 59 58,.c 60 74 [57,59],.m 56 60,.e 61 56 0,.e 62 56 1,.op 10 (.alloc [.i 0,.e,.i 0,.nils 1,.i 0,.nils 1,.i 0,.F,.e,.i 0,.i 0,.i 0,.i 0]),.s 100002 13 10 61,.m 11 62]
 (.seq (.q [.f 63 3 0,.l 64 63,.B 65 .eql 64 3]
 (.c 65 (.reg [.L 67 10 2,.f 68 3 4,.l 69 68,.f 70 3 5,.l 71 70,.c 72 75 [67,69,71],.m 66 72,.e 73 66 0,.e 74 66 1,.m 11 74])))
 (.q [.L 75 8 3,.m 76 11,.c 77 76 [75,76],.op 78 (.bslice 6 [(.t 77)]),.m 4 78]
 .ret)))))))⟩
theorem r_Ak {Te:TE} (c_Bm:C_Bm Te) (c_C4:C_C4 Te) (c_Bl:C_Bl Te) (c_Aa:C_Aa Te) (c_Bv:C_Bv Te) (c_C7:C_C7 Te) (c_Bj:C_Bj Te):C_Ak (RF Te x_Ak):=by
 intro n m hn hm
 have hL:=hn.len (by decide)
 have nb:∀ a b:Int,(a != b) = !(a==b):=fun _ _=>rfl
 have hR:n.S.T.Rows.length≤2 ^ 48:=by have:=hn.2.1.1; omega
 have hM:n.S.T.Marks.length≤2 ^ 48:=by have:=hn.2.2; omega
 refine X0 x_Ak.eq_1 ?_
 refine C0 (c_Bm n m hn) ?_
 cases g:(m.ok&&win m.To 3 4&&n.up)
 ·have e:n.mayI m=[]:=mayI_no (by rw [g]; rfl)
  exact F1 e
 cases k3:(m.Kind==3)
 ·cases k4:(m.Kind==4)
  ·have e:n.mayI m=[]:=mayI_no (by rw [g,k3,k4]; rfl)
   exact F4 nb k3 k4 e
  refine G3 nb k3 k4 ?_
  refine C0 (c_C4 m.From m.Seq) ?_
  cases gw:(win m.From 1 9&&win m.Seq 1 65535)
  ·have e:n.mayI m=[]:=mayI_no (by rw [g,k3,k4,gw]; rfl)
   exact F1 e
  refine G0 ?_
  refine C0 (c_Bl n m.From m.Seq hM) ?_
  refine C0 (c_Aa n m hn hm) ?_
  cases gb:(oldOf (markAt n.S.T.Marks m.From) m.Seq).2
  rotate_left
  ·have e:n.mayI m=[]:=mayI_no (by rw [g,k3,k4,gw,gb]; rfl)
   exact F2 gb e
  cases gl:decide (((n.desk m).2.2.length:Int) > 0)
  rotate_left
  ·have e:n.mayI m=[]:=mayI_no (by rw [g,k3,k4,gw,gb,gl]; rfl)
   exact F3 gb gl e
  have e:n.mayI m=[actV m (n.delCode m.Key)]:=by rw [mayI_yes (by rw [g,k3,k4,gw,gb,gl]; rfl),k3]; rfl
  refine G2 gb gl ?_
  refine C1 (c_Bv n m.Key hR (Nat.le_trans hm.1 (by decide))) k3 ?_
  exact D1 (c_Bj m (n.delCode m.Key)) e
 ·refine G2 nb k3 ?_
  refine C0 (c_C4 m.From m.Seq) ?_
  cases gw:(win m.From 1 9&&win m.Seq 1 65535)
  ·have e:n.mayI m=[]:=mayI_no (by rw [g,k3,gw]; rfl)
   exact F1 e
  refine G0 ?_
  refine C0 (c_Bl n m.From m.Seq hM) ?_
  refine C0 (c_Aa n m hn hm) ?_
  cases gb:(oldOf (markAt n.S.T.Marks m.From) m.Seq).2
  rotate_left
  ·have e:n.mayI m=[]:=mayI_no (by rw [g,k3,gw,gb]; rfl)
   exact F2 gb e
  cases gl:decide (((n.desk m).2.2.length:Int) > 0)
  rotate_left
  ·have e:n.mayI m=[]:=mayI_no (by rw [g,k3,gw,gb,gl]; rfl)
   exact F3 gb gl e
  have e:n.mayI m=[actV m (n.putCode m.Key m.Text)]:=by rw [mayI_yes (by rw [g,k3,gw,gb,gl]; rfl),k3]; rfl
  refine G2 gb gl ?_
  refine C1 (c_Bv n m.Key hR (Nat.le_trans hm.1 (by decide))) k3 ?_
  refine C0 (c_C7 n m.Key m.Text hR hm.1 hm.2) ?_
  exact D1 (c_Bj m (n.putCode m.Key m.Text)) e
def x_Gj:FnX:=⟨16,[.tmp 4],
  .q [.op 4 (.mv (.k (.one (.nils 1))))]
 (.seq (.q [.m 5 1,.op 6 (.conv (.int .u32) (.t 5)),.op 7 (.bin .leq (.t 6) (.k (.one (.pv (.int .u32 127)))))]
 (.c 7 (.q [.m 8 0,.m 9 1,.op 10 (.conv (.int .u8) (.t 9)),.op 11 (.bslice 1 [(.t 10)]),.op 12 (.app 1 1 (.t 8) (.t 11)),.m 4 12]
 .ret)))
 (.q [.m 13 0,.m 14 1,.op 15 (.call 328 [1,0] [(.t 13),(.t 14)]),.m 4 15]
 .ret))⟩
theorem r_Gj {Te:TE} (c_Gm:C_Gm Te):C_Gj (RF Te x_Gj):=by
 intro b m hb hm
 refine run0 ?_
 have w32:IntKind.u32.wrap (m:Int)=(m:Int):=by rw [IntKind.wrap_u32]; omega
 cases q:decide ((m:Int)≤127)
 ·have hq:¬ m≤127:=by simp only [decide_eq_false_iff_not] at q; omega
  simp -implicitDefEqProofs (maxSteps:=1000000) only [x_Gj,go_sem,w32,q]
  repeat refine ⟨sc,?_⟩
  try exact sf
  refine .of (c_Gm b m hb ⟨by omega,hm⟩) ?_
  try simp -implicitDefEqProofs (maxSteps:=1000000) only [go_sem,List.length_append]
  repeat refine ⟨sc,?_⟩
  try exact sf
  rw [← List.length_append,take_map]
 ·have hq:m≤127:=by simp only [decide_eq_true_eq] at q; omega
  have ee:List.take (b.length + 1) (List.map uR b++[[uT (mkU (m:Int))]])=List.map uR (b++enc8 m):=by
   rw [List.take_of_length_le (by simp),mkU_nat]
   simp only [enc8,if_pos hq,List.map_append,List.map_cons,List.map_nil]
  simp -implicitDefEqProofs (maxSteps:=1000000) only [x_Gj,go_sem,w32,q,mkU_wrap,ee]
  repeat refine ⟨sc,?_⟩
  try exact sf
def x_Ay:FnX:=⟨17,[.tmp 4],
  .q [.op 4 (.mv (.k (.one (.nils 1))))]
 (.q [.m 6 0,.op 7 (.bslice 1 [(.t 6)]),.c 8 100 [7],.m 5 8]
 (.seq (.q [.m 9 1,.c 10 270 [9],.N 11 10]
 (.c 11 (.q [.m 12 5,.m 4 12]
 .ret)))
 (.q [.m 13 5,.m 14 1,.op 15 (.conv (.int .i32) (.t 14)),.op 16 (.call 271 [1,0] [(.t 13),(.t 15)]),.m 4 16]
 .ret)))⟩
theorem r_Ay {Te:TE} (c_C1:C_C1 Te) (c_Ba:C_Ba Te) (c_Gj:C_Gj Te):C_Ay (RF Te x_Ay):=by
 intro b n hb
 refine X0 x_Ay.eq_1 ?_
 refine .of (c_C1 [b] (by rw [flat1]; omega) (by show 1≤2 ^ 31; decide)) ?_
 try simp -implicitDefEqProofs (maxSteps:=1000000) only [go_sem,flat1]
 repeat refine ⟨sc,?_⟩
 try exact sf
 refine C0 (c_Ba _) ?_
 cases hn:signOk n
 ·try simp -implicitDefEqProofs (maxSteps:=1000000) only [go_sem,putSign,hn,if_false,take_map]
  repeat refine ⟨sc,?_⟩
  try exact sf
  try rfl
 ·obtain ⟨h0,h1,h2⟩:=signOk_in hn
  obtain ⟨m,rfl⟩:∃ m:Nat,n=m:=⟨n.toNat,by omega⟩
  have ep:putSign b (m:Int)=b++enc8 m:=by simp only [putSign,hn,if_true,Int.toNat_natCast]
  have w:IntKind.i32.wrap (m:Int)=(m:Int):=by rw [IntWalk.i32_in _ (by omega)]
  try simp -implicitDefEqProofs (maxSteps:=1000000) only [go_sem,w,take_map]
  repeat refine ⟨sc,?_⟩
  try exact sf
  refine .of (c_Gj b m hb ⟨by omega,by omega⟩) ?_
  try simp -implicitDefEqProofs (maxSteps:=1000000) only [go_sem,List.length_append]
  repeat refine ⟨sc,?_⟩
  try exact sf
  rw [ep]
  try rw [← List.length_append,take_map]
  try rfl
def x_B2:FnX:=⟨45,[.tmp 2],
  .q [.v 1 0,.op 2 (.mv (.k (.one (.nils 13))))]
 (.q [.f 8 1 1,.l 9 8,.op 10 (.build [.i 0,.e,.i 0,.nils 1,.i 0,.nils 1,.i 0,.F,.e,.i 0,.i 0,.i 0,.i 0] [(0,1,(.i 3)),(9,1,(.t 9))]),.op 11 (.bslice 13 [(.t 10)]),.m 3 11]
 (.seq (.q [.f 12 1 0,.l 13 12,.n 14 13,.i 15 0]
 (.block 0 (.loop [1,3,13,14,15] (.q [.b 16 .lss 15 14]
 (.seq (.cond 16 .skip (.exit 0))
 (.seq (.block 1 (.q [.x 17 7 13 15,.L 18 7 17,.op 5 (.alloc [.e,.i 0,.nils 1,.i 0,.nils 1,.i 0,.F]),.s 100001 7 5 18]
 (.reg [.m 19 3,.L 20 7 5,.c 21 252 [20],.op 22 (.build [.i 0,.e,.i 0,.nils 1,.i 0,.nils 1,.i 0,.F,.e,.i 0,.i 0,.i 0,.i 0] [(0,1,(.i 1)),(1,7,(.t 21))]),.op 23 (.bslice 13 [(.t 22)]),.op 24 (.app 13 152 (.t 19) (.t 23)),.m 3 24])))
 (.reg [.B 25 .add 15 1,.m 15 25])))))))
 (.norm [1,3] (.seq (.q [.f 26 1 2,.l 27 26,.n 28 27,.i 29 0]
 (.block 2 (.loop [3,27,28,29] (.q [.b 30 .lss 29 28]
 (.seq (.cond 30 .skip (.exit 2))
 (.seq (.block 3 (.q [.x 31 3 27 29,.L 32 3 31,.op 7 (.alloc [.i 0,.i 0,.i 0]),.s 100002 3 7 32]
 (.reg [.m 33 3,.f 34 7 0,.l 35 34,.f 36 7 1,.l 37 36,.f 38 7 2,.l 39 38,.op 40 (.build [.i 0,.e,.i 0,.nils 1,.i 0,.nils 1,.i 0,.F,.e,.i 0,.i 0,.i 0,.i 0] [(0,1,(.i 4)),(10,1,(.t 35)),(11,1,(.t 37)),(12,1,(.t 39))]),.op 41 (.bslice 13 [(.t 40)]),.op 42 (.app 13 152 (.t 33) (.t 41)),.m 3 42])))
 (.reg [.B 43 .add 29 1,.m 29 43])))))))
 (.norm [3] (.q [.m 44 3,.m 2 44]
 .ret))))))⟩
theorem r_B2 {Te:TE} (c_Bs:C_Bs Te):C_B2 (RF Te x_B2):=by
 intro t h
 obtain ⟨⟨hR,hRl⟩,hM⟩:=h
 refine X0 x_B2.eq_1 ?_
 refine loop_of (σ:=Nat×List RecV) (fun x=>⟨[(1,.bp 1 0),(3,.one (.rf 46 0 [] 13 0 x.2.length)),(13,.one (.ro 7 (t.Rows.map (RowV.enc false)))),(14,.one (.pv (.int .i64 t.Rows.length))),(15,.one (.pv (.int .i64 x.1)))],[(1,[.ro 7 (t.Rows.map (RowV.enc false)),.pv (.int .i64 t.Phase),.ro 3 (t.Marks.map MarkV.row)])],[(0,t.enc false),(46,[slT true 13 (RecV.enc true) x.2])]⟩) (fun x=>x.1≤t.Rows.length∧x.2.length=x.1 + 1∧x.2=recPhase t.Phase::(t.Rows.take x.1).map recRow) (fun x=>t.Rows.length - x.1) (0,[recPhase t.Phase]) ?_ ⟨Nat.zero_le _,rfl,rfl⟩ ?_
 ·simp -implicitDefEqProofs (maxSteps:=1000000) only [go_sem]
  try rfl
 ·rintro ⟨i,a⟩ ⟨hi,hl,he⟩
  simp only at hi hl he
  cases q:decide ((i:Int) < (t.Rows.length:Int))
  ·have k0:i=t.Rows.length:=by simp only [decide_eq_false_iff_not] at q; omega
   rw [k0,List.take_length] at he
   refine G1 q ?_
   refine loop_of (σ:=Nat×List RecV) (fun x=>⟨[(3,.one (.rf 46 0 [] 13 0 x.2.length)),(27,.one (.ro 3 (t.Marks.map MarkV.row))),(28,.one (.pv (.int .i64 t.Marks.length))),(29,.one (.pv (.int .i64 x.1)))],[],[(0,t.enc false),(46,[slT true 13 (RecV.enc true) x.2])]⟩) (fun x=>x.1≤t.Marks.length∧x.2.length=t.Rows.length + x.1 + 1∧x.2=recPhase t.Phase::(t.Rows.map recRow++(t.Marks.take x.1).map recMark)) (fun x=>t.Marks.length - x.1) (0,a) ?_ ⟨Nat.zero_le _,by simp only; omega,by simp only [List.take_zero,List.map_nil,List.append_nil]; exact he⟩ ?_
   ·simp -implicitDefEqProofs (maxSteps:=1000000) only [go_sem]
    try rfl
   ·rintro ⟨j,b⟩ ⟨hj,hbl,hbe⟩
    simp only at hj hbl hbe
    cases q2:decide ((j:Int) < (t.Marks.length:Int))
    ·have k2:j=t.Marks.length:=by simp only [decide_eq_false_iff_not] at q2; omega
     rw [k2,List.take_length] at hbe
     have e9:recsOf t=b:=hbe.symm
     have e8:List.take b.length (List.map (RecV.enc true) b)=List.map (RecV.enc true) b:=List.take_of_length_le (by simp)
     exact F3 q2 e9 e8
    ·have k2:j < t.Marks.length:=by simp only [decide_eq_true_eq] at q2; omega
     have ea:List.map (RecV.enc true) b++[[iT 4,sT ⟨#[]⟩,iT 0,Tr.sl true 1 () [],iT 0,Tr.sl true 1 () [],iT 0,bT false,sT ⟨#[]⟩,iT 0,iT t.Marks[j].Who,iT t.Marks[j].Seq,iT t.Marks[j].Code]]=List.map (RecV.enc true) (b++[recMark t.Marks[j]]):=by rw [List.map_append]; rfl
     have et:List.take b.length (List.map (RecV.enc true) b)=List.map (RecV.enc true) b:=List.take_of_length_le (by simp)
     refine G4 q2 (List.getElem?_eq_getElem k2) et ea ?_
     refine ⟨(j + 1,b++[recMark t.Marks[j]]),?_,⟨k2,?_,?_⟩,?_⟩
     ·rw [IntWalk.i64_in _ (by omega)]
      simp only [List.length_append]
      rfl
     ·simp only [List.length_append,List.length_cons,List.length_nil]; omega
     ·rw [hbe,recs_marks k2]
     ·simp only; omega
  ·have k1:i < t.Rows.length:=by simp only [decide_eq_true_eq] at q; omega
   have ea:List.map (RecV.enc true) a++[[iT 1,sT t.Rows[i].Key,iT t.Rows[i].Old.Tag,slT true 1 uR t.Rows[i].Old.B,iT t.Rows[i].New.Tag,slT true 1 uR t.Rows[i].New.B,iT t.Rows[i].Has,bT t.Rows[i].Aside,sT ⟨#[]⟩,iT 0,iT 0,iT 0,iT 0]]=List.map (RecV.enc true) (a++[recRow t.Rows[i]]):=by rw [List.map_append]; rfl
   have et:List.take a.length (List.map (RecV.enc true) a)=List.map (RecV.enc true) a:=List.take_of_length_le (by simp)
   refine G2 q (List.getElem?_eq_getElem k1) ?_
   refine C2 (c_Bs t.Rows[i] (hRl _ (List.getElem_mem k1))) et ea ?_
   refine ⟨(i + 1,a++[recRow t.Rows[i]]),?_,⟨k1,?_,?_⟩,?_⟩
   ·rw [IntWalk.i64_in _ (by omega)]
    simp only [List.length_append]
    rfl
   ·simp only [List.length_append,List.length_cons,List.length_nil]; omega
   ·rw [he,recs_rows k1]
   ·simp only; omega
def x_Cz:FnX:=⟨35,[.tmp 4,.tmp 5],
  .q [.op 4 (.mv (.k (.one (.pv (.string ⟨#[]⟩))))),.F 5]
 (.q [.op 11 (.bslice 1 []),.m 6 11]
 (.seq (.q [.m 12 0,.c 13 187 [12],.N 14 13]
 (.c 14 (.q [.op 4 (.mv (.k (.one (.pv (.string ⟨#[]⟩))))),.F 5]
 .ret)))
 (.seq (.q [.i 7 0]
 (.block 0 (.loop [0,1,6,7] (.seq (.q [.m 15 7,.m 16 1,.n 17 16,.b 18 .lss 15 17]
 (.cond 18 .skip (.exit 0)))
 (.block 1 (.q [.m 20 0,.m 21 1,.m 22 7,.c 23 188 [20,21,22],.m 19 23,.e 24 19 0,.e 25 19 1,.e 26 19 2,.m 8 24,.m 9 25,.m 10 26]
 (.seq (.q [.m 27 10,.N 28 27]
 (.c 28 (.q [.op 4 (.mv (.k (.one (.pv (.string ⟨#[]⟩))))),.F 5]
 .ret)))
 (.q [.m 29 6,.m 30 8,.c 31 189 [29,30],.m 6 31]
 (.reg [.m 32 9,.m 7 32])))))))))
 (.norm [6] (.q [.m 33 6,.op 34 (.conv .b2s (.t 33)),.m 4 34,.T 5]
 .ret)))))⟩
theorem r_Cz {Te:TE} (c_G5:C_G5 Te) (c_G6:C_G6 Te) (c_Ds:C_Ds Te):C_Cz (RF Te x_Cz):=by
 intro cs b hb
 cases g:win cs 0 5
 ·have e:decode cs b=(⟨#[]⟩,false):=by rw [decode,g]; rfl
  refine X0 x_Cz.eq_1 ?_
  exact D2 (c_G5 _) g e
 ·have e:decode cs b=decGo cs b b.length 0 []:=by rw [decode,g]; rfl
  rw [e]
  generalize hD:decGo cs b b.length 0 []=D
  refine X0 x_Cz.eq_1 ?_
  refine C1 (c_G5 _) g ?_
  refine loop_of (σ:=Nat×Nat×List UInt8) (fun x=>⟨[(0,.one (.pv (.int .i64 cs))),(1,.one (.ro 1 (b.map uR))),(6,.one (.rf 37 0 [] 1 0 x.2.2.length)),(7,.one (.pv (.int .i64 x.2.1)))],[],[(0,[iT cs]),(1,[slT false 1 uR b]),(37,[slT true 1 uR x.2.2])]⟩) (fun x=>x.2.1≤b.length∧b.length≤x.1 + x.2.1∧x.2.2.length≤4 * x.2.1∧decGo cs b x.1 x.2.1 x.2.2=D) (fun x=>b.length - x.2.1) (b.length,0,[]) ?_ ⟨Nat.zero_le _,Nat.le_refl _,Nat.zero_le _,hD⟩ ?_
  ·simp -implicitDefEqProofs (maxSteps:=1000000) only [go_sem]
   try rfl
  ·rintro ⟨fu,i,out⟩ ⟨hi,hf,ho,hd⟩
   simp only at hi hf ho hd
   cases q:decide ((i:Int) < (b.length:Int))
   ·have hq:¬ (i:Int) < (b.length:Int):=by simpa using q
    rw [dec_end hq] at hd
    subst hd
    refine G1 q ?_
    refine ⟨areBytes_uR out,?_⟩
    rw [bytesOf_uD]
    try rfl
   ·have hq:(i:Int) < (b.length:Int):=by simpa using q
    obtain ⟨f,rfl⟩:∃ f,fu=f + 1:=⟨fu - 1,by omega⟩
    have hs:=c_G6 cs b i (by omega) ⟨by omega,hq⟩
    cases g2:(signIn cs b i).2.2
    ·rw [dec_bad hq g2] at hd
     subst hd
     refine G1 q ?_
     exact D1 (hs) g2
    ·rw [dec_step hq g2] at hd
     have hn:=signIn_next ⟨by omega,hq⟩ g2
     generalize signIn cs b i=r at hs g2 hd hn
     obtain ⟨n,nx,ok⟩:=r
     simp only at hs g2 hd hn
     subst g2
     obtain ⟨j,rfl⟩:∃ j:Nat,nx=j:=⟨nx.toNat,by omega⟩
     have hl:=putSign_len out n
     refine G1 q ?_
     refine C0 (hs) ?_
     refine C0 (c_Ds out n (by omega)) ?_
     exact ⟨(f,j,putSign out n),rfl,⟨by simp only; omega,by simp only; omega,by simp only; omega,hd⟩,by simp only; omega⟩
def x_Dh:FnX:=⟨33,[.tmp 4,.tmp 5],
  .q [.v 2 0,.op 4 (.mv (.k (.one (.pv (.string ⟨#[]⟩))))),.i 5 0]
 (.seq (.q [.L 9 10 2,.c 10 64 [9],.N 11 10]
 (.c 11 (.q [.op 4 (.mv (.k (.one (.pv (.string ⟨#[]⟩))))),.i 5 1]
 .ret)))
 (.q [.f 12 2 0,.f 13 12 4,.L 14 3 13,.m 15 1,.c 16 104 [14,15],.m 6 16]
 (.seq (.q [.m 17 6,.B 18 .lss 17 0]
 (.c 18 (.q [.op 4 (.mv (.k (.one (.pv (.string ⟨#[]⟩))))),.i 5 2]
 .ret)))
 (.q [.f 20 2 0,.f 21 20 4,.f 22 21 0,.l 23 22,.m 24 6,.x 25 7 23 24,.L 26 7 25,.c 27 105 [26],.m 19 27,.e 28 19 0,.e 29 19 1,.m 7 28,.m 8 29]
 (.seq (.q [.m 30 8,.N 31 30]
 (.c 31 (.q [.op 4 (.mv (.k (.one (.pv (.string ⟨#[]⟩))))),.i 5 4]
 .ret)))
 (.q [.m 32 7,.m 4 32,.i 5 0]
 .ret))))))⟩
theorem r_Dh {Te:TE} (c_F7:C_F7 Te) (c_Dx:C_Dx Te) (c_E0:C_E0 Te):C_Dh (RF Te x_Dh):=by
 intro n key h
 refine X0 x_Dh.eq_1 ?_
 refine C0 (c_F7 n h) ?_
 cases g:n.up
 ·have e:n.get key=(⟨#[]⟩,1):=by rw [NodeV.get,g]; rfl
  exact F1 e
 refine G0 ?_
 refine C0 (c_Dx n.S.T key h.2.1.1) ?_
 rcases rowAt_cases n.S.T.Rows key with ⟨e1,e2⟩ | ⟨hk,e1,e2⟩
 ·have e:n.get key=(⟨#[]⟩,2):=by rw [NodeV.get,g,e2]; rfl
  exact F2 e1 e
 have hr:=rowOk_13 (TabV.ok_row (NodeV.up_tab g) hk)
 have c1:decide ((rowIx n.S.T.Rows key:Int) < 0)=false:=decide_eq_false (by omega)
 refine G3 e1 e2 c1 ?_
 refine C0 (c_E0 n.S.T.Rows[rowIx n.S.T.Rows key] hr) ?_
 cases g2:n.S.T.Rows[rowIx n.S.T.Rows key].rtext.2
 ·have e:n.get key=(⟨#[]⟩,4):=by rw [NodeV.get,g,e2]; simp only [if_true,g2]; rfl
  exact F2 e g2
 ·have e:n.get key=(n.S.T.Rows[rowIx n.S.T.Rows key].rtext.1,0):=by rw [NodeV.get,g,e2]; simp only [if_true,g2]
  exact F2 e g2
end Go.X

