/- Texts: CVe_3 CVu_3 CP CVo CVa CVze_2 CVg CVla CVb CVc_2. -/
import Derived.Test.YtmmjaijeeeilcaaGreatDoorS04
set_option linter.unusedVariables false
set_option linter.unusedSimpArgs false
namespace Go.X
set_option maxRecDepth 100000
set_option maxHeartbeats 8000000
def x_s_RowOk:FnX:=⟨106,[.tmp 2],
  .q [.v 1 0,.F 2]
 (.seq (.q [.f 7 1 0,.l 8 7,.c 9 101 [8],.N 10 9,.m 11 10,.z 11 (.f 12 1 5),.z 11 (.l 13 12),.z 11 (.op 14 (.call 120 [0,0,0] [(.t 13),(.i 1),(.i 3)])),.z 11 (.N 15 14),.r 16 11 15,.m 17 16,.z 17 (.L 18 7 1),.z 17 (.c 19 291 [18]),.z 17 (.N 20 19),.z 17 (.m 21 20),.y 21 (.f 22 1 1),.y 21 (.L 23 2 22),.y 21 (.c 24 339 [23]),.y 21 (.N 25 24),.z 17 (.a 26 21 25),.r 27 17 26,.m 28 27,.z 28 (.L 29 7 1),.z 28 (.c 30 196 [29]),.z 28 (.N 31 30),.z 28 (.m 32 31),.y 32 (.f 33 1 3),.y 32 (.L 34 2 33),.y 32 (.c 35 339 [34]),.y 32 (.N 36 35),.z 28 (.a 37 32 36),.r 38 28 37]
 (.c 38 (.q [.F 2]
 .ret)))
 (.q [.f 40 1 1,.L 41 2 40,.c 42 197 [41],.m 39 42,.e 43 39 0,.e 44 39 1,.m 3 43,.m 4 44]
 (.q [.f 46 1 3,.L 47 2 46,.c 48 197 [47],.m 45 48,.e 49 45 0,.e 50 45 1,.m 5 49,.m 6 50]
 (.seq (.block 0 (.q [.L 52 7 1,.c 53 291 [52],.m 54 53,.y 54 (.f 55 1 1),.y 54 (.f 56 55 0),.y 54 (.l 57 56),.y 54 (.op 58 (.call 120 [0,0,0] [(.t 57),(.i 1),(.i 5)])),.y 54 (.N 59 58),.y 54 (.m 60 59),.z 60 (.f 61 1 1),.z 60 (.L 62 2 61),.z 60 (.c 63 286 [62]),.z 60 (.N 64 63),.y 54 (.r 65 60 64),.a 66 54 65,.m 51 66]
 (.cond 51 (.q [.F 2]
 .ret) (.q [.L 68 7 1,.c 69 196 [68],.m 70 69,.y 70 (.f 71 1 3),.y 70 (.f 72 71 0),.y 70 (.l 73 72),.y 70 (.B 74 .neq 73 0),.y 70 (.m 75 74),.z 75 (.m 76 6),.z 75 (.N 77 76),.y 70 (.r 78 75 77),.a 79 70 78,.m 67 79]
 (.cond 67 (.q [.F 2]
 .ret) (.q [.L 81 7 1,.c 82 291 [81],.m 83 82,.y 83 (.m 84 4),.y 83 (.N 85 84),.a 86 83 85,.m 87 86,.y 87 (.f 88 1 6),.y 87 (.l 89 88),.y 87 (.N 90 89),.y 87 (.m 91 90),.z 91 (.L 92 7 1),.z 91 (.c 93 196 [92]),.y 87 (.r 94 91 93),.a 95 87 94,.m 80 95]
 (.c 80 (.q [.F 2]
 .ret))))))))
 (.q [.f 96 1 5,.l 97 96,.B 98 .neq 97 3,.m 99 98,.z 99 (.f 100 1 1),.z 99 (.L 101 2 100),.z 99 (.f 102 1 3),.z 99 (.L 103 2 102),.z 99 (.c 104 340 [101,103]),.r 105 99 104,.m 2 105]
 .ret)))))⟩
theorem r_s_RowOk {Te:TE} (c_s_NameOk:C_s_NameOk Te) (c_s_l1In:C_s_l1In Te) (c_s_l9Old:C_s_l9Old Te) (c_s_l9None:C_s_l9None Te) (c_s_l9New:C_s_l9New Te) (c_s_CellText:C_s_CellText Te) (c_s_CellOk:C_s_CellOk Te) (c_s_SameText:C_s_SameText Te):C_s_RowOk (RF Te x_s_RowOk):=by
 intro r h
 obtain ⟨hk,_⟩:=h
 refine X0 x_s_RowOk.eq_1 ?_
 refine C0 (c_s_NameOk r.Key hk) ?_
 cases g1:nameOk r.Key
 ·have e:=rowOk_name (r:=r) g1
  exact F1 e
 refine G0 ?_
 refine C0 (c_s_l1In _ _ _) ?_
 cases g2:win r.Has 1 3
 ·have e:=rowOk_has (r:=r) g2
  exact F1 e
 have h3:=win13 g2
 obtain ⟨key,old,new,has,aside⟩:=r
 simp only at h3 g1 hk
 clear g2
 rcases h3 with rfl | rfl | rfl
 ·skip
  have e:=rowOk_1 (o:=old) (n:=new) (a:=aside) g1
  refine G0 ?_
  refine C0 (c_s_l9Old ⟨key,old,new,1,aside⟩ (by simp)) ?_
  refine C0 (c_s_l9New ⟨key,old,new,1,aside⟩ (by simp)) ?_
  refine C0 (c_s_l9None new) ?_
  cases n1:new.no
  ·exact F2 n1 e
  refine G1 n1 ?_
  refine C0 (c_s_CellText old) ?_
  refine C0 (c_s_CellText new) ?_
  refine C0 (c_s_l9Old ⟨key,old,new,1,aside⟩ (by simp)) ?_
  refine C0 (c_s_l1In _ _ _) ?_
  cases w:win old.Tag 1 5
  ·have e2:=tag_no w
   exact F3 w e e2
  have t:=tag_yes w
  refine G1 w ?_
  refine C0 (c_s_CellOk old) ?_
  cases o1:old.ok
  ·exact F2 o1 e
  refine G1 o1 ?_
  refine C0 (c_s_l9New ⟨key,old,new,1,aside⟩ (by simp)) ?_
  refine C0 (c_s_l9Old ⟨key,old,new,1,aside⟩ (by simp)) ?_
  cases o3:old.text.2
  ·cases aside
   ·exact F4 o3 e o1 t
   ·refine G1 o3 ?_
    refine .of (c_s_l9New ⟨key,old,new,1,true⟩ (by simp)) ?_
    try simp -implicitDefEqProofs (maxSteps:=1000000) only [go_sem,e,o1,t,o3,n1]
    repeat refine ⟨sc,?_⟩
    try exact sf
  ·try simp -implicitDefEqProofs (maxSteps:=1000000) only [go_sem,o3,e,o1,t,n1]
   repeat refine ⟨sc,?_⟩
   try exact sf
 ·skip
  have e:=rowOk_2 (o:=old) (n:=new) (a:=aside) g1
  refine G0 ?_
  refine C0 (c_s_l9Old ⟨key,old,new,2,aside⟩ (by simp)) ?_
  refine C0 (c_s_l9None old) ?_
  cases o1:old.no
  ·exact F2 o1 e
  refine G1 o1 ?_
  refine C0 (c_s_l9New ⟨key,old,new,2,aside⟩ (by simp)) ?_
  refine C0 (c_s_CellText old) ?_
  refine C0 (c_s_CellText new) ?_
  refine C0 (c_s_l9Old ⟨key,old,new,2,aside⟩ (by simp)) ?_
  refine C0 (c_s_l9New ⟨key,old,new,2,aside⟩ (by simp)) ?_
  cases n1:(new.Tag==0)
  ·have n1':(new.Tag != 0)=true:=by rw [bne,n1]; rfl
   exact F3 n1' e n1
  have n1':(new.Tag != 0)=false:=by rw [bne,n1]; rfl
  cases n2:new.text.2
  ·exact F3 n1' n2 e
  refine G2 n1' n2 ?_
  exact D4 (c_s_l9Old ⟨key,old,new,2,aside⟩ (by simp)) e o1 n1 n2
 ·skip
  have e:=rowOk_3 (o:=old) (n:=new) (a:=aside) g1
  refine G0 ?_
  refine C0 (c_s_l9Old ⟨key,old,new,3,aside⟩ (by simp)) ?_
  refine C0 (c_s_l9New ⟨key,old,new,3,aside⟩ (by simp)) ?_
  refine C0 (c_s_CellText old) ?_
  refine C0 (c_s_CellText new) ?_
  refine C0 (c_s_l9Old ⟨key,old,new,3,aside⟩ (by simp)) ?_
  refine C0 (c_s_l1In _ _ _) ?_
  cases w:win old.Tag 1 5
  ·have e2:=tag_no w
   exact F3 w e e2
  have t:=tag_yes w
  refine G1 w ?_
  refine C0 (c_s_CellOk old) ?_
  cases o1:old.ok
  ·exact F2 o1 e
  refine G1 o1 ?_
  refine C0 (c_s_l9New ⟨key,old,new,3,aside⟩ (by simp)) ?_
  cases n1:(new.Tag==0)
  ·have n1':(new.Tag != 0)=true:=by rw [bne,n1]; rfl
   exact F3 n1' e n1
  have n1':(new.Tag != 0)=false:=by rw [bne,n1]; rfl
  cases n2:new.text.2
  ·exact F3 n1' n2 e
  refine G2 n1' n2 ?_
  refine C0 (c_s_l9Old ⟨key,old,new,3,aside⟩ (by simp)) ?_
  cases o3:old.text.2
  ·cases aside
   ·exact F4 o3 e o1 t
   ·refine G1 o3 ?_
    exact D2 (c_s_l9New ⟨key,old,new,3,true⟩ (by simp)) e o3
  refine G1 o3 ?_
  refine .of (c_s_SameText old new) ?_
  try simp -implicitDefEqProofs (maxSteps:=1000000) only [go_sem,e,o1,t,o3,n1,n2]
  repeat refine ⟨sc,?_⟩
  try exact sf
def x_s_l13Add_1:XCode:=.seq (.q [.m 37 0,.op 38 (.nilc (.t 37)),.f 39 38 0,.f 40 39 3,.l 41 40,.m 42 41,.z 42 (.m 43 0),.z 42 (.op 44 (.nilc (.t 43))),.z 42 (.f 45 44 8),.z 42 (.l 46 45),.z 42 (.B 47 .eql 46 30),.r 48 42 47]
 (.c 48 (.q [.F 4]
 .ret)))
 (.seq (.draw [.m 49 0,.op 50 (.nilc (.t 49)),.f 51 50 0,.m 52 0,.op 53 (.nilc (.t 52)),.f 54 53 7,.l 55 54,.m 56 0,.op 57 (.nilc (.t 56)),.f 58 57 8,.l 59 58,.c 60 193 [55,59],.m 61 0,.op 62 (.nilc (.t 61)),.f 63 62 7,.l 64 63,.m 65 0,.op 66 (.nilc (.t 65)),.f 67 66 8,.l 68 67,.L 69 13 3,.c 70 194 [64,68,69],.op 71 (.call 192 [6,0,0] [(.t 51),(.t 60),(.t 70)])] [[],[0],[1],[],[3],[4],[5],[],[7],[8],[9],[6,10],[],[12],[13],[14],[],[16],[17],[18],[],[15,19,20,11],[2,11,21,21]])
 (.q [.m 72 0,.op 73 (.nilc (.t 72)),.f 74 73 0,.op 75 (.call 195 [6] [(.t 74)])]
 (.seq (.q [.m 76 0,.op 77 (.nilc (.t 76)),.f 78 77 0,.f 79 78 3,.l 80 79]
 (.c 80 (.q [.F 4]
 .ret)))
 (.q [.m 81 0,.m 82 0,.op 83 (.nilc (.t 82)),.f 84 83 8,.l 85 84,.B 86 .add 85 1,.op 87 (.nilc (.t 81)),.f 88 87 8,.s 100002 1 88 86]
 (.q [.m 89 0,.L 90 3 5,.op 91 (.nilc (.t 89)),.f 92 91 4,.s 100003 3 92 90]
 (.q [.T 4]
 .ret))))))
def x_s_l13Add:FnX:=⟨93,[.tmp 4],
  .q [.v 3 1,.F 4]
 (.seq (.draw [.m 8 0,.op 9 (.nilc (.t 8)),.f 10 9 4,.L 11 3 10,.L 12 13 3,.c 13 190 [11,12],.m 7 13,.e 14 7 0,.e 15 7 1,.op 5 (.alloc [.nils 7,.i 0,.nils 3]),.s 100001 3 5 14,.m 6 15] [[],[0],[1],[2],[],[3,4],[5],[6],[6],[],[9,7,5,0,1,2,3,4,5,6,7,9],[8,10,0,1,2,3,4,5,6,7,8,9,10]])
 (.seq (.q [.m 16 6,.N 17 16]
 (.c 17 (.q [.F 4]
 .ret)))
 (.seq (.q [.m 18 0,.op 19 (.nilc (.t 18)),.f 20 19 8,.l 21 20,.B 22 .eql 21 30,.m 23 22,.y 23 (.m 24 0),.y 23 (.op 25 (.nilc (.t 24))),.y 23 (.f 26 25 7),.y 23 (.l 27 26),.y 23 (.B 28 .lss 27 60000),.a 29 23 28]
 (.c 29 (.reg [.m 30 0,.m 31 0,.op 32 (.nilc (.t 31)),.f 33 32 7,.l 34 33,.B 35 .add 34 1,.op 36 (.call 191 [11,0] [(.t 30),(.t 35)])])))
 (.norm [0,3,5] (x_s_l13Add_1)))))⟩
theorem r_s_l13Add {Te:TE} (c_s_Apply:C_s_Apply Te) (c_s_l13Lay:C_s_l13Lay Te) (c_s_l13At:C_s_l13At Te) (c_s_PutRec:C_s_PutRec Te) (c_s_l10Write:C_s_l10Write Te) (c_s_l10Flush:C_s_l10Flush Te):C_s_l13Add (RF Te x_s_l13Add):=by
 intro s r hk hd hT hr
 have q:=room_ok hk hT
 have hk1:=(StoreV.ok_iff s).1 hk
 refine X0 x_s_l13Add.eq_1 ?_
 refine C0 (c_s_Apply s.T r hT hr) ?_
 cases g3:(s.T.apply r).2
 ·have e:s.add r=(s,false):=by rw [StoreV.add,StoreV.fits,hk,hd,g3]; rfl
  exact F2 g3 e
 have e:s.add r=s.room.end (s.T.apply r).1 r:=by rw [StoreV.add,StoreV.fits,hk,hd,g3]; rfl
 rw [e]
 generalize (s.T.apply r).1=t
 have hr8:=hr.mono (m:=2 ^ 48) (by decide)
 clear e
 cases g4:(s.Place==30)
 ·have er:s.room=s:=by rw [StoreV.room,g4]; rfl
  rw [er] at q ⊢
  have f2:=write_ok q.1 (secOf s.Gen s.Place) (putRec s.Gen s.Place r)
  have hp:=putRec_len s.Gen s.Place r
  have ew:IntKind.i64.wrap (s.Place + 1)=s.Place + 1:=IntWalk.i64_in _ (by omega)
  have hcl:=(DevV.ok_iff _).1 q.1
  have hcl2:=(DevV.ok_iff _).1 f2
  have t1:=c_s_l10Write s.D (secOf s.Gen s.Place) (putRec s.Gen s.Place r) (by omega) (by omega)
  simp only [DevV.enc,hd] at t1
  refine G3 g3 hd g4 ?_
  simp -implicitDefEqProofs (maxSteps:=1000000) only [x_s_l13Add_1,go_sem,g4]
  repeat refine ⟨sc,?_⟩
  refine C0 (c_s_l13At _ _) ?_
  refine C0 (c_s_PutRec s.Gen s.Place r hr8) ?_
  refine C0 (t1) ?_
  refine .of (c_s_l10Flush _ (by omega) (DevV.ok_idx f2)) ?_
  try simp -implicitDefEqProofs (maxSteps:=1000000) only [go_sem,take_all]
  repeat refine ⟨sc,?_⟩
  try exact sf
  have el:((s.D.write (secOf s.Gen s.Place) (putRec s.Gen s.Place r)).flush)=s.log r:=rfl
  rw [el]
  cases g9:(s.log r).Down
  ·have e2:s.end t r=(⟨s.log r,t,s.Gen,s.Place + 1⟩,true):=by rw [StoreV.end,hd,g4,g9]; rfl
   try simp -implicitDefEqProofs (maxSteps:=1000000) only [go_sem,g9,ew,e2,take_all,take_marks,StoreV.enc]
   repeat refine ⟨sc,?_⟩
   try exact sf
   try rfl
  ·have e2:s.end t r=(⟨s.log r,s.T,s.Gen,s.Place⟩,false):=by rw [StoreV.end,hd,g4,g9]; rfl
   try simp -implicitDefEqProofs (maxSteps:=1000000) only [go_sem,g9,e2,take_all,take_marks,StoreV.enc]
   repeat refine ⟨sc,?_⟩
   try exact sf
   try rfl
 cases g5:(s.Gen==60000)
 ·have er:s.room=s.lay (s.Gen + 1):=by rw [StoreV.room,g4,StoreV.relay,hk,hd,g5]; rfl
  have g6:decide (s.Gen < 60000)=true:=by simp only [beq_eq_false_iff_ne] at g5; exact decide_eq_true (by omega)
  have ew:IntKind.i64.wrap (s.Gen + 1)=s.Gen + 1:=IntWalk.i64_in _ (by omega)
  rw [er] at q ⊢
  refine G4 g3 g4 g6 ew ?_
  refine C0 (c_s_l13Lay s (s.Gen + 1) hk1.1 hT) ?_
  generalize s.lay (s.Gen + 1)=S at q ⊢
  cases gd:S.D.Down
  rotate_left
  ·have e2:S.end t r=(S,false):=by rw [StoreV.end,gd]; rfl
   try simp -implicitDefEqProofs (maxSteps:=1000000) only [go_sem,x_s_l13Add_1,gd,e2,take_all,take_marks,StoreV.enc]
   repeat refine ⟨sc,?_⟩
   try exact sf
   try rfl
  cases gp:(S.Place==30)
  rotate_left
  ·have e2:S.end t r=(S,false):=by rw [StoreV.end,gd,gp]; rfl
   try simp -implicitDefEqProofs (maxSteps:=1000000) only [go_sem,x_s_l13Add_1,gd,gp,e2,take_all,take_marks,StoreV.enc]
   repeat refine ⟨sc,?_⟩
   try exact sf
   try rfl
  have f2:=write_ok q.1 (secOf S.Gen S.Place) (putRec S.Gen S.Place r)
  have hp:=putRec_len S.Gen S.Place r
  have ew:IntKind.i64.wrap (S.Place + 1)=S.Place + 1:=IntWalk.i64_in _ (by omega)
  have hcl:=(DevV.ok_iff _).1 q.1
  have hcl2:=(DevV.ok_iff _).1 f2
  have t1:=c_s_l10Write S.D (secOf S.Gen S.Place) (putRec S.Gen S.Place r) (by omega) (by omega)
  simp only [DevV.enc,gd] at t1
  simp -implicitDefEqProofs (maxSteps:=1000000) only [x_s_l13Add_1,go_sem,gd,gp]
  repeat refine ⟨sc,?_⟩
  refine C0 (c_s_l13At _ _) ?_
  refine C0 (c_s_PutRec S.Gen S.Place r hr8) ?_
  refine C0 (t1) ?_
  refine .of (c_s_l10Flush _ (by omega) (DevV.ok_idx f2)) ?_
  try simp -implicitDefEqProofs (maxSteps:=1000000) only [go_sem,take_all]
  repeat refine ⟨sc,?_⟩
  try exact sf
  have el:((S.D.write (secOf S.Gen S.Place) (putRec S.Gen S.Place r)).flush)=S.log r:=rfl
  rw [el]
  cases g9:(S.log r).Down
  ·have e2:S.end t r=(⟨S.log r,t,S.Gen,S.Place + 1⟩,true):=by rw [StoreV.end,gd,gp,g9]; rfl
   try simp -implicitDefEqProofs (maxSteps:=1000000) only [go_sem,g9,ew,e2,take_all,take_marks,StoreV.enc]
   repeat refine ⟨sc,?_⟩
   try exact sf
   try rfl
  ·have e2:S.end t r=(⟨S.log r,S.T,S.Gen,S.Place⟩,false):=by rw [StoreV.end,gd,gp,g9]; rfl
   try simp -implicitDefEqProofs (maxSteps:=1000000) only [go_sem,g9,e2,take_all,take_marks,StoreV.enc]
   repeat refine ⟨sc,?_⟩
   try exact sf
   try rfl
 ·have er:s.room=s:=by rw [StoreV.room,g4,StoreV.relay,g5,Bool.not_true,Bool.and_false]; rfl
  have g6:decide (s.Gen < 60000)=false:=by simp only [beq_iff_eq] at g5; exact decide_eq_false (by omega)
  have e2:s.end t r=(s,false):=by rw [StoreV.end,g4,Bool.or_true]; rfl
  rw [er] at q ⊢
  refine G4 g3 hd g4 g6 ?_
  try simp -implicitDefEqProofs (maxSteps:=1000000) only [go_sem,x_s_l13Add_1,hd,g4,e2,take_all,take_marks,StoreV.enc]
  repeat refine ⟨sc,?_⟩
  try exact sf
  try rfl
def x_l_big:FnX:=⟨6,[.tmp 2],
  .q [.F 2]
 (.q [.m 3 0,.n 4 3,.B 5 .gtr 4 1048576,.m 2 5]
 .ret)⟩
theorem r_l_big {Te:TE}:C_l_big (RF Te x_l_big):=by
 intro l
 refine run0 ?_
 simp -implicitDefEqProofs (maxSteps:=1000000) only [x_l_big,go_sem]
 repeat refine ⟨sc,?_⟩
 try exact sf
def x_l_at:FnX:=⟨21,[.tmp 4],
  .q [.i 4 0]
 (.seq (.q [.m 5 1,.m 6 0,.n 7 6,.b 8 .lss 5 7]
 (.c 8 (.q [.m 9 0,.m 10 1,.x 11 1 9 10,.l 12 11,.op 13 (.conv (.int .i64) (.t 12)),.m 4 13]
 .ret)))
 (.q [.m 14 1,.B 15 .mul 14 31,.m 16 0,.n 17 16,.B 18 .mul 17 7,.b 19 .add 15 18,.B 20 .rem 19 256,.m 4 20]
 .ret))⟩
theorem r_l_at {Te:TE}:∀ (l:List UInt8) (i:Int) (hi:0≤i∧i≤2 ^ 31) (hl:l.length≤2 ^ 31),∃ r0,(∃ (r:Int),(0≤r∧r≤255)∧r0=(⟨[.one (iT r)],[[slT false 1 uR l],[iT i]]⟩:Res))∧RunFn Te x_l_at [.one (slT false 1 uR l),.one (iT i)] r0:=by
 intro l i hi hl
 refine some_of (Nat.le_of_ble_eq_true rfl) (by rfl) ?_
 simp -implicitDefEqProofs (maxSteps:=1000000) only [x_l_at,go_sem]
 repeat refine ⟨sc,?_⟩
 try exact sf
 refine ⟨fun q=>?_,fun q=>?_⟩
 ·have hi':i.toNat < l.length:=by simp only [decide_eq_true_eq] at q; omega
  have hb:=l[i.toNat].toNat_lt
  try simp -implicitDefEqProofs (maxSteps:=1000000) only [go_sem,List.getElem?_eq_getElem hi']
  repeat refine ⟨sc,?_⟩
  try exact sf
  refine ⟨_,?_,rfl⟩
  rw [IntWalk.i64_in _ (by omega)]
  omega
 ·have ha:0≤i * 31 + (l.length:Int) * 7:=by omega
  rw [IntWalk.i64_in (i * 31) (by omega),IntWalk.i64_in ((l.length:Int) * 7) (by omega),IntWalk.i64_in _ (by omega)]
  have:=tmod_in (n:=256) ha (by decide)
  exact ⟨_,by omega,rfl⟩
def x_s_l1New:FnP:=⟨32,2,
  .q [.op 2 (.mv (.k (.one (.pv (.pointer none)))))]
 (.q [.m 5 0,.n 6 5,.op 7 (.bin .add (.i 953953) (.t 6)),.m 3 7]
 (.seq (.q [.i 4 0]
 (.block 0 (.loop [0,3,4] (.seq (.q [.m 8 4,.m 9 0,.n 10 9,.b 11 .lss 8 10,.m 12 11,.y 12 (.m 13 4),.y 12 (.B 14 .lss 13 4000),.a 15 12 14]
 (.cond 15 .skip (.exit 0)))
 (.seq (.block 1 (.reg [.m 18 3,.B 19 .mul 18 137,.m 20 0,.m 21 4,.x 22 1 20 21,.l 23 22,.op 24 (.conv (.int .i64) (.t 23)),.b 25 .add 19 24,.B 26 .add 25 11,.B 27 .and 26 1073741823,.m 3 27]))
 (.reg [.m 16 4,.B 17 .add 16 1,.m 4 17]))))))
 (.norm [0,3] (.q [.m 28 0,.m 29 3,.op 30 (.build [.nils 1,.i 0,.i 0] [(0,1,(.t 28)),(2,1,(.t 29))]),.v 31 30,.m 2 31]
 .ret))))⟩
theorem r_s_l1New {Te:TE}:∀ (l:List UInt8) (hl:l.length≤2 ^ 31),∃ r0,(∃ (c:CurV),(c.ok)∧r0=(⟨[.ptr c.enc],[[slT false 1 uR l]]⟩:Res))∧RunFnP Te x_s_l1New [.one (slT false 1 uR l)] (fun r=>r=r0):=by
 intro l hl
 refine some_ofP (by rfl) ⟨by simp -implicitDefEqProofs (maxSteps:=1000000) only [x_s_l1New,go_sem],?_⟩
 simp -implicitDefEqProofs (maxSteps:=1000000) only [x_s_l1New,go_sem]
 repeat refine ⟨sc,?_⟩
 try exact sf
 refine loop_of (σ:=Nat×Int) (fun x=>⟨[(0,.one (.ro 1 (l.map uR))),(3,.one (.pv (.int .i64 x.2))),(4,.one (.pv (.int .i64 x.1)))],[],[(0,[slT false 1 uR l])]⟩) (fun x=>x.1≤l.length) (fun x=>l.length - x.1) (0,IntKind.i64.wrap (953953 + (l.length:Int))) ?_ (Nat.zero_le _) ?_
 ·simp -implicitDefEqProofs (maxSteps:=1000000) only [go_sem]; rfl
 ·rintro ⟨i,h⟩ hi
  simp only at hi
  cases q:decide ((i:Int) < (l.length:Int))
  ·refine G1 q ?_
   exact ⟨⟨l,0,h⟩,⟨Int.le_refl _,by simp,hl⟩,rfl⟩
  ·have hi':i < l.length:=by simp only [decide_eq_true_eq] at q; omega
   refine G1 q ?_
   refine ⟨fun q2=>?_,fun q2=>?_⟩
   ·try simp -implicitDefEqProofs (maxSteps:=1000000) only [go_sem,List.getElem?_eq_getElem hi']
    repeat refine ⟨sc,?_⟩
    try exact sf
    exact ⟨(i + 1,_),by rw [IntWalk.i64_in ((i:Int) + 1) (by omega)]; rfl,hi',by simp only; omega⟩
   ·refine G0 ?_
    exact ⟨⟨l,0,h⟩,⟨Int.le_refl _,by simp,hl⟩,rfl⟩
def x_s_l1Byte:FnX:=⟨58,[.tmp 2],
  .q [.i 2 0]
 (.q [.m 4 0,.m 5 0,.op 6 (.nilc (.t 5)),.f 7 6 2,.l 8 7,.B 9 .mul 8 6364136223846793005,.B 10 .add 9 1442695040888963407,.op 11 (.nilc (.t 4)),.f 12 11 2,.s 100001 1 12 10]
 (.seq (.draw [.m 13 0,.op 14 (.nilc (.t 13)),.f 15 14 2,.l 16 15,.op 17 (.bin .shr (.t 16) (.k (.one (.pv (.int .u64 33))))),.m 18 0,.op 19 (.nilc (.t 18)),.f 20 19 2,.l 21 20,.op 22 (.bin .shr (.t 21) (.k (.one (.pv (.int .u64 47))))),.b 23 .xor 17 22,.B 24 .and 23 255,.m 3 24] [[],[0],[1],[2],[3],[],[5],[6],[7],[8],[4,9],[10],[11,0,1,2,3,4,5,6,7,8,9,10,11]])
 (.seq (.seq (.draw [.m 25 0,.op 26 (.nilc (.t 25)),.f 27 26 1,.l 28 27,.m 29 0,.op 30 (.nilc (.t 29)),.f 31 30 0,.l 32 31,.n 33 32,.b 34 .lss 28 33] [[],[0],[1],[2],[],[4],[5],[6],[7],[3,8]])
 (.c 34 (.seq (.draw [.m 35 3,.m 36 0,.op 37 (.nilc (.t 36)),.f 38 37 0,.l 39 38,.m 40 0,.op 41 (.nilc (.t 40)),.f 42 41 1,.l 43 42,.x 44 1 39 43,.l 45 44,.op 46 (.conv (.int .i64) (.t 45)),.b 47 .add 35 46,.B 48 .and 47 255,.m 3 48] [[],[],[1],[2],[3],[],[5],[6],[7],[4,8],[9],[10],[0,11],[12],[13,0,1,2,3,4,5,6,7,8,9,10,11,12,13]])
 (.reg [.m 49 0,.m 50 0,.op 51 (.nilc (.t 50)),.f 52 51 1,.l 53 52,.B 54 .add 53 1,.op 55 (.nilc (.t 49)),.f 56 55 1,.s 100002 1 56 54]))))
 (.q [.m 57 3,.m 2 57]
 .ret))))⟩
theorem r_s_l1Byte {Te:TE}:∀ (c:CurV) (hc:c.ok),∃ r0,(∃ (r:Int) (d:CurV),((0≤r∧r≤255)∧d.ok)∧r0=(⟨[.one (iT r)],[d.enc]⟩:Res))∧RunFn Te x_s_l1Byte [.ptr c.enc] r0:=by
 intro c hc
 refine some_of (Nat.le_of_ble_eq_true rfl) (by rfl) ?_
 obtain ⟨h0,h1,h2⟩:=hc
 simp -implicitDefEqProofs (maxSteps:=1000000) only [x_s_l1Byte,go_sem]
 repeat refine ⟨sc,?_⟩
 try exact sf
 refine ⟨fun q=>?_,fun q=>?_⟩
 ·have hi':c.i.toNat < c.b.length:=by simp only [decide_eq_true_eq] at q; omega
  try simp -implicitDefEqProofs (maxSteps:=1000000) only [go_sem,List.getElem?_eq_getElem hi']
  repeat refine ⟨sc,?_⟩
  try exact sf
  refine ⟨_,⟨c.b,IntKind.i64.wrap (c.i + 1),IntKind.i64.wrap (IntKind.i64.wrap (c.h * 6364136223846793005) + 1442695040888963407)⟩,?_,rfl⟩
  refine ⟨andK_255 _,?_⟩
  rw [IntWalk.i64_in _ (by omega)]
  exact ⟨by show 0≤c.i + 1; omega,by show c.i + 1≤c.b.length; omega,h2⟩
 ·refine G0 ?_
  refine ⟨_,⟨c.b,c.i,IntKind.i64.wrap (IntKind.i64.wrap (c.h * 6364136223846793005) + 1442695040888963407)⟩,?_,rfl⟩
  exact ⟨andK_255 _,h0,h1,h2⟩
def x_s_l1Below:FnX:=⟨31,[.tmp 4],
  .q [.i 4 0]
 (.seq (.q [.m 8 1,.B 9 .leq 8 0]
 (.c 9 (.q [.i 4 0]
 .ret)))
 (.seq (.q [.m 10 1,.B 11 .leq 10 256]
 (.c 11 (.q [.m 12 0,.op 13 (.call 181 [5] [(.t 12)]),.m 14 1,.b 15 .rem 13 14,.m 4 15]
 .ret)))
 (.q [.m 16 0,.op 17 (.call 181 [5] [(.t 16)]),.m 5 17]
 (.q [.m 18 0,.op 19 (.call 181 [5] [(.t 18)]),.m 6 19]
 (.q [.m 20 0,.op 21 (.call 181 [5] [(.t 20)]),.m 7 21]
 (.q [.m 22 5,.B 23 .mul 22 65536,.m 24 6,.B 25 .mul 24 256,.b 26 .add 23 25,.m 27 7,.b 28 .add 26 27,.m 29 1,.b 30 .rem 28 29,.m 4 30]
 .ret))))))⟩
theorem r_s_l1Below {Te:TE} (c_s_l1Byte:C_s_l1Byte Te):∀ (c:CurV) (n:Int) (hc:c.ok),∃ r0,(∃ (r:Int) (d:CurV),((0≤r∧(0 < n→r < n)∧(n≤0→r=0))∧d.ok)∧r0=(⟨[.one (iT r)],[d.enc,[iT n]]⟩:Res))∧RunFn Te x_s_l1Below [.ptr c.enc,.one (iT n)] r0:=by
 intro c n hc
 refine some_of (Nat.le_of_ble_eq_true rfl) (by rfl) ?_
 simp -implicitDefEqProofs (maxSteps:=1000000) only [x_s_l1Below,go_sem]
 repeat refine ⟨sc,?_⟩
 try exact sf
 refine ⟨fun q=>?_,fun q=>?_⟩
 ·refine G0 ?_
  simp only [decide_eq_true_eq] at q
  exact ⟨0,c,⟨⟨Int.le_refl _,fun h=>by omega,fun _=>rfl⟩,hc⟩,rfl⟩
 ·have hn:0 < n:=by simp only [decide_eq_false_iff_not] at q; omega
  have hz:(!(n==0))=true:=by simp; omega
  refine G0 ?_
  refine ⟨fun q2=>?_,fun q2=>?_⟩
  ·refine G0 ?_
   obtain ⟨r,d,⟨hr,hd⟩,ht⟩:=c_s_l1Byte c hc
   refine C1 (ht) hz ?_
   have:=tmod_in (n:=n) hr.1 hn
   exact ⟨_,d,⟨⟨this.1,fun _=>this.2,fun h=>by omega⟩,hd⟩,rfl⟩
  ·refine G0 ?_
   obtain ⟨r1,d1,⟨hr1,hd1⟩,ht1⟩:=c_s_l1Byte c hc
   refine C0 (ht1) ?_
   obtain ⟨r2,d2,⟨hr2,hd2⟩,ht2⟩:=c_s_l1Byte d1 hd1
   refine C0 (ht2) ?_
   obtain ⟨r3,d3,⟨hr3,hd3⟩,ht3⟩:=c_s_l1Byte d2 hd2
   refine C1 (ht3) hz ?_
   rw [IntWalk.i64_in (r1 * 65536) (by omega),IntWalk.i64_in (r2 * 256) (by omega),IntWalk.i64_in (r1 * 65536 + r2 * 256) (by omega),IntWalk.i64_in _ (by omega)]
   have:=tmod_in (a:=r1 * 65536 + r2 * 256 + r3) (n:=n) (by omega) hn
   exact ⟨_,d3,⟨⟨this.1,fun _=>this.2,fun h=>by omega⟩,hd3⟩,rfl⟩
def x_i_isUp:FnX:=⟨12,[.tmp 2],
  .q [.v 1 0,.F 2]
 (.q [.L 3 10 1,.c 4 23 [3],.m 5 4,.y 5 (.f 6 1 0),.y 5 (.f 7 6 0),.y 5 (.f 8 7 3),.y 5 (.l 9 8),.y 5 (.N 10 9),.a 11 5 10,.m 2 11]
 .ret)⟩
theorem r_i_isUp {Te:TE} (c_i_NodeOk:C_i_NodeOk Te):C_i_isUp (RF Te x_i_isUp):=by
 intro n h
 refine X0 x_i_isUp.eq_1 ?_
 refine C0 (c_i_NodeOk n h) ?_
 cases g:n.ok
 ·have e:n.up=false:=by rw [NodeV.up,g]; rfl
  exact F1 e
 ·have e:n.up = !n.S.D.Down:=by rw [NodeV.up,g]; rfl
  exact F1 e
def x_s_l15Up:FnX:=⟨12,[.tmp 2],
  .q [.v 1 0,.F 2]
 (.q [.L 3 10 1,.c 4 43 [3],.m 5 4,.y 5 (.f 6 1 0),.y 5 (.f 7 6 0),.y 5 (.f 8 7 3),.y 5 (.l 9 8),.y 5 (.N 10 9),.a 11 5 10,.m 2 11]
 .ret)⟩
theorem r_s_l15Up {Te:TE} (c_s_NodeOk:C_s_NodeOk Te):C_s_l15Up (RF Te x_s_l15Up):=by
 intro n h
 refine X0 x_s_l15Up.eq_1 ?_
 refine C0 (c_s_NodeOk n h) ?_
 cases g:n.ok
 ·have e:n.up=false:=by rw [NodeV.up,g]; rfl
  exact F1 e
 ·have e:n.up = !n.S.D.Down:=by rw [NodeV.up,g]; rfl
  exact F1 e
def x_i_RowText:FnX:=⟨18,[.tmp 2,.tmp 3],
  .q [.v 1 0,.op 2 (.mv (.k (.one (.pv (.string ⟨#[]⟩))))),.F 3]
 (.seq (.q [.f 4 1 5,.l 5 4,.B 6 .and 5 2,.B 7 .neq 6 0]
 (.c 7 (.q [.f 8 1 3,.L 9 2 8,.c 10 177 [9],.e 11 10 0,.e 12 10 1,.m 2 11,.m 3 12]
 .ret)))
 (.q [.f 13 1 1,.L 14 2 13,.c 15 177 [14],.e 16 15 0,.e 17 15 1,.m 2 16,.m 3 17]
 .ret))⟩
theorem r_i_RowText {Te:TE} (c_i_CellText:C_i_CellText Te):C_i_RowText (RF Te x_i_RowText):=by
 intro r h
 have e:=and2_ne _ h
 refine X1 x_i_RowText.eq_1 e ?_
 by_cases g:r.Has=1
 ·have e2:r.rtext=r.Old.text:=if_pos g
  have e3:decide (r.Has≠1)=false:=by simp [g]
  refine G1 e3 ?_
  exact D1 (c_i_CellText r.Old) e2
 ·have e2:r.rtext=r.New.text:=if_neg g
  have e3:decide (r.Has≠1)=true:=by simp [g]
  refine G1 e3 ?_
  exact D1 (c_i_CellText r.New) e2
def x_i_RowAt1:FnX:=⟨8,[.tmp 3],
  .q [.v 2 0,.F 3]
 (.q [.f 4 2 0,.l 5 4,.l 6 1,.b 7 .eql 5 6,.m 3 7]
 .ret)⟩
theorem r_i_RowAt1 {Te:TE}:C_i_RowAt1 (RF Te x_i_RowAt1):=by
 intro r key
 refine run0 ?_
 simp -implicitDefEqProofs (maxSteps:=1000000) only [x_i_RowAt1,go_sem]
 repeat refine ⟨sc,?_⟩
 try exact sf
def x_z_IndexFuncimplRowAt1:FnX:=⟨19,[.tmp 4],
  .q [.i 4 0]
 (.seq (.q [.m 6 0,.n 7 6,.i 8 0]
 (.block 0 (.loop [0,1,7,8] (.q [.b 9 .lss 8 7]
 (.seq (.cond 9 .skip (.exit 0))
 (.seq (.block 1 (.q [.m 10 8,.m 5 10]
 (.q [.m 11 1,.m 12 0,.m 13 5,.x 14 7 12 13,.L 15 7 14,.op 16 (.dcall 176 [0,3] [(.t 15)] (.t 11))]
 (.c 16 (.q [.m 17 5,.m 4 17]
 .ret)))))
 (.reg [.B 18 .add 8 1,.m 8 18])))))))
 (.norm [] (.q [.i 4 (-1)]
 .ret)))⟩
theorem r_z_IndexFuncimplRowAt1 {Te:TE} (c_i_RowAt1:C_i_RowAt1 Te):C_z_IndexFuncimplRowAt1 (RFV Te 176 x_z_IndexFuncimplRowAt1):=by
 intro l key hl
 refine run0V ?_
 simp -implicitDefEqProofs (maxSteps:=1000000) only [x_z_IndexFuncimplRowAt1,go_sem]
 repeat refine ⟨sc,?_⟩
 try exact sf
 refine loop_of (σ:=Nat) (fun i=>⟨[(0,.one (.ro 7 (l.map (RowV.enc false)))),(1,.fn 176 1 0),(7,.one (.pv (.int .i64 l.length))),(8,.one (.pv (.int .i64 i)))],[(1,[.pv (.string key)])],[(0,[slT false 7 (RowV.enc false) l]),(1,[sT key])]⟩) (fun i=>i≤l.length∧∀ j (hj:j < l.length),j < i→decide (l[j].Key=key)=false) (fun i=>l.length - i) 0 ?_ ⟨Nat.zero_le _,fun j _ h=>absurd h (Nat.not_lt_zero _)⟩ ?_
 ·simp -implicitDefEqProofs (maxSteps:=1000000) only [go_sem]
  try rfl
 ·rintro i ⟨hi,hp⟩
  cases q:decide ((i:Int) < (l.length:Int))
  ·have e:=rowAt_none (i:=i) (by simp only [decide_eq_false_iff_not] at q; omega) hp
   exact F2 q e
  ·have k1:i < l.length:=by simp only [decide_eq_true_eq] at q; omega
   refine G2 q (List.getElem?_eq_getElem k1) ?_
   refine C0 (c_i_RowAt1 l[i] key) ?_
   cases g:decide (l[i].Key=key)
   ·refine G1 g ?_
    refine ⟨i + 1,?_,⟨k1,rowAt_step k1 hp g⟩,by omega⟩
    rw [IntWalk.i64_in _ (by omega)]
    rfl
   ·have e:=(rowAt_hit k1 hp g).1
    exact F2 g e
def x_i_RowAt:FnX:=⟨9,[.tmp 4],
  .q [.v 2 0,.v 3 1,.i 4 0]
 (.q [.f 5 2 0,.l 6 5,.op 7 (.clos 176 (.t 3)),.op 8 (.vcall 175 176 [0,3] [(.t 6)] (.t 7)),.m 4 8]
 .ret)⟩
theorem r_i_RowAt {Te:TE} (c_z_IndexFuncimplRowAt1:C_z_IndexFuncimplRowAt1 Te):C_i_RowAt (RF Te x_i_RowAt):=by
 intro t key hl
 refine X0 x_i_RowAt.eq_1 ?_
 exact D0 (c_z_IndexFuncimplRowAt1 t.Rows key hl)
def x_s_RowAt:FnX:=⟨22,[.tmp 4],
  .q [.v 2 0,.i 4 0]
 (.seq (.q [.i 5 0]
 (.block 0 (.loop [1,2,5] (.seq (.q [.m 6 5,.f 7 2 0,.l 8 7,.n 9 8,.b 10 .lss 6 9]
 (.cond 10 .skip (.exit 0)))
 (.seq (.block 1 (.q [.f 13 2 0,.l 14 13,.m 15 5,.x 16 7 14 15,.f 17 16 0,.l 18 17,.m 19 1,.b 20 .eql 18 19]
 (.c 20 (.q [.m 21 5,.m 4 21]
 .ret))))
 (.reg [.m 11 5,.B 12 .add 11 1,.m 5 12]))))))
 (.norm [] (.q [.i 4 (-1)]
 .ret)))⟩
theorem r_s_RowAt {Te:TE}:C_s_RowAt (RF Te x_s_RowAt):=by
 intro t key hl
 refine X0 x_s_RowAt.eq_1 ?_
 refine loop_of (σ:=Nat) (fun i=>⟨[(1,.one (.pv (.string key))),(2,.bp 2 0),(5,.one (.pv (.int .i64 i)))],[(2,[.ro 7 (t.Rows.map (RowV.enc false)),.pv (.int .i64 t.Phase),.ro 3 (t.Marks.map MarkV.row)])],[(0,t.enc false),(1,[sT key])]⟩) (fun i=>i≤t.Rows.length∧∀ j (hj:j < t.Rows.length),j < i→decide (t.Rows[j].Key=key)=false) (fun i=>t.Rows.length - i) 0 ?_ ⟨Nat.zero_le _,fun j _ h=>absurd h (Nat.not_lt_zero _)⟩ ?_
 ·simp -implicitDefEqProofs (maxSteps:=1000000) only [go_sem]
  try rfl
 ·rintro i ⟨hi,hp⟩
  cases q:decide ((i:Int) < (t.Rows.length:Int))
  ·have e:=rowAt_none (i:=i) (by simp only [decide_eq_false_iff_not] at q; omega) hp
   exact F2 q e
  ·have k1:i < t.Rows.length:=by simp only [decide_eq_true_eq] at q; omega
   cases g:decide (t.Rows[i].Key=key)
   ·refine G3 q (List.getElem?_eq_getElem k1) g ?_
    refine ⟨i + 1,?_,⟨k1,rowAt_step k1 hp g⟩,by omega⟩
    rw [IntWalk.i64_in _ (by omega)]
    rfl
   ·have e:=(rowAt_hit k1 hp g).1
    exact F4 q (List.getElem?_eq_getElem k1) g e
def x_i_NodeGet:FnX:=⟨33,[.tmp 4,.tmp 5],
  .q [.v 2 0,.op 4 (.mv (.k (.one (.pv (.string ⟨#[]⟩))))),.i 5 0]
 (.seq (.q [.L 9 10 2,.c 10 82 [9],.N 11 10]
 (.c 11 (.q [.op 4 (.mv (.k (.one (.pv (.string ⟨#[]⟩))))),.i 5 1]
 .ret)))
 (.q [.f 12 2 0,.f 13 12 4,.L 14 3 13,.m 15 1,.c 16 87 [14,15],.m 6 16]
 (.seq (.q [.m 17 6,.B 18 .lss 17 0]
 (.c 18 (.q [.op 4 (.mv (.k (.one (.pv (.string ⟨#[]⟩))))),.i 5 2]
 .ret)))
 (.q [.f 20 2 0,.f 21 20 4,.f 22 21 0,.l 23 22,.m 24 6,.x 25 7 23 24,.L 26 7 25,.c 27 88 [26],.m 19 27,.e 28 19 0,.e 29 19 1,.m 7 28,.m 8 29]
 (.seq (.q [.m 30 8,.N 31 30]
 (.c 31 (.q [.op 4 (.mv (.k (.one (.pv (.string ⟨#[]⟩))))),.i 5 4]
 .ret)))
 (.q [.m 32 7,.m 4 32,.i 5 0]
 .ret))))))⟩
theorem r_i_NodeGet {Te:TE} (c_i_isUp:C_i_isUp Te) (c_i_RowAt:C_i_RowAt Te) (c_i_RowText:C_i_RowText Te):C_i_NodeGet (RF Te x_i_NodeGet):=by
 intro n key h
 refine X0 x_i_NodeGet.eq_1 ?_
 refine C0 (c_i_isUp n h) ?_
 cases g:n.up
 ·have e:n.get key=(⟨#[]⟩,1):=by rw [NodeV.get,g]; rfl
  exact F1 e
 refine G0 ?_
 refine C0 (c_i_RowAt n.S.T key h.2.1.1) ?_
 rcases rowAt_cases n.S.T.Rows key with ⟨e1,e2⟩ | ⟨hk,e1,e2⟩
 ·have e:n.get key=(⟨#[]⟩,2):=by rw [NodeV.get,g,e2]; rfl
  exact F2 e1 e
 have hr:=rowOk_13 (TabV.ok_row (NodeV.up_tab g) hk)
 have c1:decide ((rowIx n.S.T.Rows key:Int) < 0)=false:=decide_eq_false (by omega)
 refine G3 e1 e2 c1 ?_
 refine C0 (c_i_RowText n.S.T.Rows[rowIx n.S.T.Rows key] hr) ?_
 cases g2:n.S.T.Rows[rowIx n.S.T.Rows key].rtext.2
 ·have e:n.get key=(⟨#[]⟩,4):=by rw [NodeV.get,g,e2]; simp only [if_true,g2]; rfl
  exact F2 e g2
 ·have e:n.get key=(n.S.T.Rows[rowIx n.S.T.Rows key].rtext.1,0):=by rw [NodeV.get,g,e2]; simp only [if_true,g2]
  exact F2 e g2
def x_s_GetSign_1:XCode:=.seq (.q [.i 9 1]
 (.block 0 (.loop [0,1,7,8,9] (.seq (.q [.m 43 9,.m 44 7,.b 45 .lss 43 44]
 (.cond 45 .skip (.exit 0)))
 (.seq (.block 1 (.seq (.q [.m 48 0,.m 49 1,.m 50 9,.b 51 .add 49 50,.x 52 1 48 51,.l 53 52,.op 54 (.bin .and (.t 53) (.k (.one (.pv (.int .u8 192))))),.op 55 (.bin .neq (.t 54) (.k (.one (.pv (.int .u8 128)))))]
 (.c 55 (.q [.i 4 0,.i 5 0,.F 6]
 .ret)))
 (.reg [.m 56 8,.op 57 (.bin .shl (.t 56) (.k (.one (.pv (.int .u64 6))))),.m 58 0,.m 59 1,.m 60 9,.b 61 .add 59 60,.x 62 1 58 61,.l 63 62,.op 64 (.bin .and (.t 63) (.k (.one (.pv (.int .u8 63))))),.op 65 (.conv (.int .i64) (.t 64)),.b 66 .or 57 65,.m 8 66])))
 (.reg [.m 46 9,.B 47 .add 46 1,.m 9 47]))))))
 (.norm [0,1,7,8] (.seq (.seq (.draw [.m 67 8,.c 68 275 [67],.N 69 68,.m 70 69,.z 70 (.op 71 (.bslice 1 [])),.z 70 (.m 72 8),.z 70 (.c 73 189 [71,72]),.z 70 (.op 74 (.conv .b2s (.t 73))),.z 70 (.m 75 0),.z 70 (.m 76 1),.z 70 (.m 77 1),.z 70 (.m 78 7),.z 70 (.b 79 .add 77 78),.z 70 (.op 80 (.slice 1 (.t 75) (some (.t 76)) (some (.t 79)))),.z 70 (.op 81 (.conv .b2s (.t 80))),.z 70 (.b 82 .neq 74 81),.r 83 70 82] [[],[0],[1],[2,1],[3],[3],[4,5,3,3],[6,3],[3],[3],[3],[3],[10,11,3],[8,9,12,3],[13,3],[7,14,3],[3,15]])
 (.c 83 (.q [.i 4 0,.i 5 0,.F 6]
 .ret)))
 (.q [.m 84 8,.m 85 1,.m 86 7,.b 87 .add 85 86,.m 4 84,.m 5 87,.T 6]
 .ret)))
def x_s_GetSign:FnX:=⟨88,[.tmp 4,.tmp 5,.tmp 6],
  .q [.i 4 0,.i 5 0,.F 6]
 (.seq (.q [.m 10 1,.m 11 0,.n 12 11,.B 13 .sub 12 1,.op 14 (.call 120 [0,0,0] [(.t 10),(.i 0),(.t 13)]),.N 15 14]
 (.c 15 (.q [.i 4 0,.i 5 0,.F 6]
 .ret)))
 (.q [.m 16 0,.m 17 1,.x 18 1 16 17,.l 19 18,.c 20 329 [19],.m 7 20]
 (.seq (.q [.m 21 7,.B 22 .eql 21 0,.m 23 22,.z 23 (.m 24 7),.z 23 (.m 25 0),.z 23 (.n 26 25),.z 23 (.m 27 1),.z 23 (.b 28 .sub 26 27),.z 23 (.b 29 .gtr 24 28),.r 30 23 29]
 (.c 30 (.q [.i 4 0,.i 5 0,.F 6]
 .ret)))
 (.q [.m 31 0,.m 32 1,.x 33 1 31 32,.l 34 33,.op 35 (.conv (.int .i64) (.t 34)),.m 8 35]
 (.seq (.q [.m 36 7,.B 37 .gtr 36 1]
 (.c 37 (.reg [.m 38 8,.m 39 7,.op 40 (.conv (.int .u64) (.t 39)),.op 41 (.bin .shr (.i 127) (.t 40)),.b 42 .and 38 41,.m 8 42])))
 (.norm [0,1,7,8] (x_s_GetSign_1)))))))⟩
theorem s_GetSign_tail {Te:Nat→List AV→Res→Prop} (c_S:C_s_SignOk Te) (c_P:C_s_PutSign Te) (b:List UInt8) (k K m:Nat) (hb:b.length≤2 ^ 30) (hK:1≤K∧K≤4∧k + K≤b.length) (hm:m < 256) :
  runC Te 2 90 x_s_GetSign_1 ⟨[(0,.one (.ro 1 (b.map uR))),(1,.one (.pv (.int .i64 (k:Int)))),(7,.one (.pv (.int .i64 (K:Int)))),(8,.one (.pv (.int .i64 (m:Int))))],[],[(0,[slT false 1 uR b]),(1,[iT k])]⟩
   (EndFn Te [.one (slT false 1 uR b),.one (iT k)] [.tmp 4,.tmp 5,.tmp 6] ⟨[.one (iT (signTail (b.drop k) k K m).1),.one (iT (signTail (b.drop k) k K m).2.1),.one (bT (signTail (b.drop k) k K m).2.2)],[[slT false 1 uR b],[iT k]]⟩):=by
 simp -implicitDefEqProofs (maxSteps:=1000000) only [x_s_GetSign_1,go_sem]
 refine loop_of (σ:=Nat) (fun j=>⟨[(0,.one (.ro 1 (b.map uR))),(1,.one (.pv (.int .i64 (k:Int)))),(7,.one (.pv (.int .i64 (K:Int)))),(8,.one (.pv (.int .i64 ((accN (b.drop k) m j:Nat):Int)))),(9,.one (.pv (.int .i64 ((j + 1:Nat):Int))))],[],[(0,[slT false 1 uR b]),(1,[iT k])]⟩) (fun j=>j + 1≤K∧contB (b.drop k) j=true) (fun j=>K - j) 0 ?_ ⟨hK.1,rfl⟩ ?_
 ·simp -implicitDefEqProofs (maxSteps:=1000000) only [go_sem]; rfl
 ·rintro j ⟨hj,hc⟩
  have hacc:=accN_small (b.drop k) hm (show j≤3 by omega)
  cases q:decide (((j + 1:Nat):Int) < (K:Int))
  ·have hjK:j=K - 1:=by simp only [decide_eq_false_iff_not] at q; omega
   subst hjK
   refine G1 q ?_
   refine C0 (c_S _) ?_
   cases h1:signOk ((accN (b.drop k) m (K - 1):Nat):Int)
   ·have e:=tail_no (l:=b.drop k) (i:=k) (K:=K) (m:=m) (by rw [h1,Bool.and_false,Bool.false_and])
    exact F1 e
   ·have e1:IntKind.i64.wrap ((k:Int) + (K:Int))=((k + K:Nat):Int):=by rw [IntWalk.i64_in _ (by omega)]; rfl
    have e2:k≤k + K:=Nat.le_add_right _ _
    have e3:List.take (k + K - k) (List.drop k (b.map uR))=((b.drop k).take K).map uR:=by rw [← List.map_drop,← List.map_take,Nat.add_sub_cancel_left]
    have e4:decide (k + K≤b.length)=true:=decide_eq_true hK.2.2
    refine G0 ?_
    refine .of (c_P [] _ (by decide)) ?_
    try simp -implicitDefEqProofs (maxSteps:=1000000) only [go_sem,e1,e3,take_map,bytesOf_uR,areBytes_uR,wholeLL_map]
    repeat refine ⟨sc,?_⟩
    try exact sf
    have ep:putSign [] ((accN (b.drop k) m (K - 1):Nat):Int)=enc8 (accN (b.drop k) m (K - 1)):=by simp only [putSign,h1,if_true,Int.toNat_natCast,List.nil_append]
    have ed:decide ((⟨(enc8 (accN (b.drop k) m (K - 1))).toArray⟩:ByteArray)=⟨((b.drop k).take K).toArray⟩)=decide (enc8 (accN (b.drop k) m (K - 1))=(b.drop k).take K):=by
     congr 1
     simp
    cases h2:decide (enc8 (accN (b.drop k) m (K - 1))=(b.drop k).take K)
    ·have e:=tail_no (l:=b.drop k) (i:=k) (K:=K) (m:=m) (by rw [h2,Bool.and_false])
     exact F4 ep ed h2 e
    ·have e:signTail (b.drop k) k K m=(((accN (b.drop k) m (K - 1):Nat):Int),(k:Int) + (K:Nat),true):=if_pos (by rw [hc,h1,h2]; rfl)
     exact F4 ep ed h2 e
  ·have hjK:j + 1 < K:=by simp only [decide_eq_true_eq] at q; omega
   have hidx:k + (j + 1) < b.length:=by omega
   have e1:IntKind.i64.wrap ((k:Int) + ((j + 1:Nat):Int))=((k + (j + 1):Nat):Int):=by rw [IntWalk.i64_in _ (by omega)]; rfl
   have eb:b[k + (j + 1)].toNat=byteN (b.drop k) (j + 1):=by
    simp only [byteN,List.getD_eq_getElem?_getD,List.getElem?_drop]
    rw [List.getElem?_eq_getElem hidx]
    rfl
   have hlt:=byteN_lt (b.drop k) (j + 1)
   have e2:=and192 (byteN (b.drop k) (j + 1)) hlt
   try simp -implicitDefEqProofs (maxSteps:=1000000) only [go_sem,q,e1,List.getElem?_eq_getElem hidx,eb,e2]
   repeat refine ⟨sc,?_⟩
   try exact sf
   cases h3:(byteN (b.drop k) (j + 1) / 64==2)
   ·have hno:contB (b.drop k) (K - 1)=false:=contB_down _ (show j + 1≤K - 1 by omega) (by simp only [contB,h3,Bool.and_false])
    have e:=tail_no (l:=b.drop k) (i:=k) (K:=K) (m:=m) (by rw [hno,Bool.false_and,Bool.false_and])
    exact F1 e
   ·have e4:IntKind.i64.wrap (((accN (b.drop k) m j:Nat):Int) * 2 ^ 6)=((accN (b.drop k) m j * 64:Nat):Int):=by rw [IntWalk.i64_in _ (by omega)]; omega
    have e5:=and8 (byteN (b.drop k) (j + 1)) hlt
    have e6:IntKind.i64.wrap ((byteN (b.drop k) (j + 1) % 64:Nat):Int)=((byteN (b.drop k) (j + 1) % 64:Nat):Int):=IntWalk.i64_in _ (by omega)
    have e7:=or_acc (accN (b.drop k) m j) (byteN (b.drop k) (j + 1) % 64) (by omega) (by omega)
    try simp -implicitDefEqProofs (maxSteps:=1000000) only [go_sem,show Nat.min 6 64=6 from rfl,e1,List.getElem?_eq_getElem hidx,eb,e4,e5,e6,e7]
    repeat refine ⟨sc,?_⟩
    try exact sf
    exact ⟨j + 1,by rw [IntWalk.i64_in _ (by omega)]; rfl,⟨hjK,by simp only [contB,hc,h3,Bool.and_true]⟩,by omega⟩
theorem r_s_GetSign {Te:TE} (c_s_l1In:C_s_l1In Te) (c_s_l2Len:C_s_l2Len Te) (c_s_SignOk:C_s_SignOk Te) (c_s_PutSign:C_s_PutSign Te):C_s_GetSign (RF Te x_s_GetSign):=by
 intro b i hb
 by_cases hi:0≤i∧i < b.length
 ·obtain ⟨k,rfl⟩:∃ k:Nat,i=k:=⟨i.toNat,by omega⟩
  have hk:k < b.length:=by omega
  have hk':((k:Int)).toNat < b.length:=by omega
  have hld:(b.drop k).length=b.length - k:=List.length_drop
  have w1:IntKind.i64.wrap ((b.length:Int) - 1)=(b.length:Int) - 1:=IntWalk.i64_in _ (by omega)
  have w2:IntKind.i64.wrap ((b.length:Int) - (k:Int))=(b.length:Int) - (k:Int):=IntWalk.i64_in _ (by omega)
  have g:win (k:Int) 0 ((b.length:Int) - 1)=true:=by simp only [win,Bool.and_eq_true,decide_eq_true_eq]; omega
  have eb:b[k].toNat=byteN (b.drop k) 0:=by
   simp only [byteN,List.getD_eq_getElem?_getD,List.getElem?_drop,Nat.add_zero]
   rw [List.getElem?_eq_getElem hk]
   rfl
  have hlt:=byteN_lt (b.drop k) 0
  have w3:IntKind.i64.wrap ((byteN (b.drop k) 0:Nat):Int)=(byteN (b.drop k) 0:Nat):=IntWalk.i64_in _ (by omega)
  refine X1 x_s_GetSign.eq_1 w1 ?_
  refine C2 (c_s_l1In _ _ _) g (List.getElem?_eq_getElem hk) ?_
  refine C2 (c_s_l2Len _) eb w2 ?_
  have bad:(l2len (byteN (b.drop k) 0)=0∨(b.drop k).length < l2len (byteN (b.drop k) 0))→getSign b k=(0,0,false):=fun h=>getSign_bad hi (by rw [Int.toNat_natCast]; exact sign0 h (by omega))
  cases q0:(((l2len (byteN (b.drop k) 0):Nat):Int)==0)
  ·cases q1:decide (((l2len (byteN (b.drop k) 0):Nat):Int) > (b.length:Int) - (k:Int))
   ·have hK0:l2len (byteN (b.drop k) 0)≠0:=by
     intro e
     rw [e] at q0
     cases q0
    have hKl:l2len (byteN (b.drop k) 0)≤(b.drop k).length:=by simp only [decide_eq_false_iff_not] at q1; omega
    have tail:∀ K m:Nat,1≤K∧K≤4∧k + K≤b.length→m < 256→_:=fun K m h1 h2=>s_GetSign_tail c_s_SignOk c_s_PutSign b k K m hb h1 h2
    have eg:getSign b (k:Int)=getTail (b.drop k) k:=by
     cases hs:signAt (b.drop k) with
     | none=>rw [getTail_none hs,getSign_bad hi (by rw [Int.toNat_natCast]; exact hs)]
     | some d=>rw [getTail_some hs,getSign_good hi (by rw [Int.toNat_natCast]; exact hs)]
    rcases l2len_in _ hK0 with ⟨hK,hv⟩ | ⟨hK,hv⟩ | ⟨hK,hv⟩ | ⟨hK,hv⟩
    ·rw [hK] at hKl q0 q1
     have ek:decide (((1:Nat):Int) > 1)=false:=by decide
     rw [eg,tail1 (l:=b.drop k) (k:Int) (by omega) hv]
     simp -implicitDefEqProofs (maxSteps:=1000000) only [go_sem,hK,q0,q1,w2,w3,List.getElem?_eq_getElem hk,eb,ek]
     exact tail 1 (byteN (b.drop k) 0) (by omega) (by omega)
    ·rw [hK] at hKl q0 q1
     have ek:decide (((2:Nat):Int) > 1)=true:=by decide
     rw [eg,tail2 (l:=b.drop k) (k:Int) (by omega) hv]
     have em:andK .i64 ((byteN (b.drop k) 0:Nat):Int) ((31:Nat):Int)=((byteN (b.drop k) 0 % 32:Nat):Int):=and_mask _ 5 hlt (by decide)
     have ew:IntKind.u64.wrap ((2:Nat):Int)=((2:Nat):Int):=by decide
     have ef:Int.fdiv 127 (2 ^ Nat.min 2 64)=((31:Nat):Int):=by decide
     simp -implicitDefEqProofs (maxSteps:=1000000) only [go_sem,hK,q0,q1,w2,w3,List.getElem?_eq_getElem hk,eb,ek,ew,ef,em]
     exact tail 2 (byteN (b.drop k) 0 % 32) (by omega) (by omega)
    ·rw [hK] at hKl q0 q1
     have ek:decide (((3:Nat):Int) > 1)=true:=by decide
     rw [eg,tail3 (l:=b.drop k) (k:Int) (by omega) hv]
     have em:andK .i64 ((byteN (b.drop k) 0:Nat):Int) ((15:Nat):Int)=((byteN (b.drop k) 0 % 16:Nat):Int):=and_mask _ 4 hlt (by decide)
     have ew:IntKind.u64.wrap ((3:Nat):Int)=((3:Nat):Int):=by decide
     have ef:Int.fdiv 127 (2 ^ Nat.min 3 64)=((15:Nat):Int):=by decide
     simp -implicitDefEqProofs (maxSteps:=1000000) only [go_sem,hK,q0,q1,w2,w3,List.getElem?_eq_getElem hk,eb,ek,ew,ef,em]
     exact tail 3 (byteN (b.drop k) 0 % 16) (by omega) (by omega)
    ·rw [hK] at hKl q0 q1
     have ek:decide (((4:Nat):Int) > 1)=true:=by decide
     rw [eg,tail4 (l:=b.drop k) (k:Int) (by omega) hv]
     have em:andK .i64 ((byteN (b.drop k) 0:Nat):Int) ((7:Nat):Int)=((byteN (b.drop k) 0 % 8:Nat):Int):=and_mask _ 3 hlt (by decide)
     have ew:IntKind.u64.wrap ((4:Nat):Int)=((4:Nat):Int):=by decide
     have ef:Int.fdiv 127 (2 ^ Nat.min 4 64)=((7:Nat):Int):=by decide
     simp -implicitDefEqProofs (maxSteps:=1000000) only [go_sem,hK,q0,q1,w2,w3,List.getElem?_eq_getElem hk,eb,ek,ew,ef,em]
     exact tail 4 (byteN (b.drop k) 0 % 8) (by omega) (by omega)
   ·have e:=bad (.inr (by simp only [decide_eq_true_eq] at q1; omega))
    exact F4 q0 q1 w2 e
  ·have e:=bad (.inl (by have:=eq_of_beq q0; omega))
   exact F2 q0 e
 ·have e:=getSign_no hi
  have w1:IntKind.i64.wrap ((b.length:Int) - 1)=(b.length:Int) - 1:=IntWalk.i64_in _ (by omega)
  have g:win i 0 ((b.length:Int) - 1)=false:=by
   simp only [win,Bool.and_eq_false_imp,decide_eq_true_eq,decide_eq_false_iff_not]
   omega
  refine X1 x_s_GetSign.eq_1 w1 ?_
  exact D2 (c_s_l1In _ _ _) g e
def x_i_NodeStep:FnX:=⟨77,[.cell 4 (some 10),.tmp 5,.tmp 6,.tmp 7],
  .q [.v 2 0,.op 4 (.alloc [.nils 1,.nils 2,.i 0,.F,.nils 7,.i 0,.nils 3,.i 0,.i 0,.i 0]),.op 5 (.mv (.k (.one (.pv (.string ⟨#[]⟩))))),.i 6 0,.F 7]
 (.q [.L 17 10 2,.c 18 60 [17],.op 8 (.alloc [.nils 1,.nils 2,.i 0,.F,.nils 7,.i 0,.nils 3,.i 0,.i 0,.i 0]),.s 100001 10 8 18]
 (.q [.f 19 2 0,.f 20 19 4,.f 21 20 1,.l 22 21,.m 9 22]
 (.seq (.q [.L 23 10 2,.c 24 82 [23],.N 25 24,.m 26 25,.z 26 (.m 27 9),.z 26 (.c 28 21 [27]),.z 26 (.N 29 28),.r 30 26 29]
 (.c 30 (.q [.L 31 10 8,.m 32 1,.s 100002 10 4 31,.m 5 32,.i 6 0,.F 7]
 .ret)))
 (.q [.f 33 2 0,.f 34 33 4,.L 35 3 34,.m 36 1,.c 37 83 [35,36],.m 10 37]
 (.q [.m 38 1,.m 11 38]
 (.seq (.q [.m 39 10,.m 40 10,.n 41 40,.op 42 (.min (.i 2) (.t 41)),.op 43 (.slice 7 (.t 39) none (some (.t 42))),.n 44 43,.i 45 0]
 (.block 0 (.loop [1,4,8,9,10,11,43,44,45] (.q [.b 46 .lss 45 44]
 (.seq (.cond 46 .skip (.exit 0))
 (.seq (.block 1 (.q [.x 47 7 43 45,.L 48 7 47,.op 13 (.alloc [.e,.i 0,.nils 1,.i 0,.nils 1,.i 0,.F]),.s 100003 7 13 48]
 (.q [.m 49 9,.L 50 7 13,.c 51 84 [49,50],.op 14 (.alloc [.e,.i 0,.nils 1,.i 0,.nils 1,.i 0,.F]),.s 100004 7 14 51]
 (.q [.f 52 13 0,.l 53 52,.m 11 53]
 (.seq (.q [.L 54 7 14,.L 55 7 13,.c 56 85 [54,55]]
 (.c 56 (.exit 1)))
 (.q [.L 58 10 8,.L 59 7 14,.op 60 (.build [.i 0,.e,.i 0,.nils 1,.i 0,.nils 1,.i 0,.F,.e,.i 0,.i 0,.i 0,.i 0] [(0,1,(.i 1)),(1,7,(.t 59))]),.c 61 86 [58,60],.m 57 61,.e 62 57 0,.e 63 57 1,.op 15 (.alloc [.nils 1,.nils 2,.i 0,.F,.nils 7,.i 0,.nils 3,.i 0,.i 0,.i 0]),.s 100005 10 15 62,.m 16 63]
 (.q [.L 64 10 15,.s 100006 10 8 64]
 (.q [.m 65 16,.N 66 65]
 (.c 66 (.q [.L 67 10 8,.m 68 1,.s 100007 10 4 67,.m 5 68,.i 6 0,.F 7]
 .ret))))))))))
 (.reg [.B 69 .add 45 1,.m 45 69])))))))
 (.norm [4,8,10,11] (.seq (.q [.m 70 10,.n 71 70,.B 72 .gtr 71 2]
 (.c 72 (.q [.L 73 10 8,.m 74 11,.s 100008 10 4 73,.m 5 74,.i 6 0,.T 7]
 .ret)))
 (.q [.L 75 10 8,.m 76 11,.s 100009 10 4 75,.m 5 76,.i 6 1,.T 7]
 .ret)))))))))⟩
theorem r_i_NodeStep {Te:TE} (c_i_copyNode:C_i_copyNode Te) (c_i_isUp:C_i_isUp Te) (c_i_Walks:C_i_Walks Te) (c_i_rowsBehind:C_i_rowsBehind Te) (c_i_turnedRow:C_i_turnedRow Te) (c_i_sameRow:C_i_sameRow Te) (c_i_added:C_i_added Te):C_i_NodeStep (RF Te x_i_NodeStep):=by
 intro n f hn
 have hL:=hn.len (by decide)
 refine X0 x_i_NodeStep.eq_1 ?_
 refine C0 (c_i_copyNode n hL) ?_
 refine C0 (c_i_isUp n (hn.mono (by decide))) ?_
 cases g1:n.up
 ·have e:n.step f=(n,f,0,false):=by rw [NodeV.step,g1]; rfl
  exact F1 e
 refine G0 ?_
 refine C0 (c_i_Walks _) ?_
 cases g2:walks n.S.T.Phase
 ·have e:n.step f=(n,f,0,false):=by rw [NodeV.step,g1,g2]; rfl
  exact F1 e
 refine G0 ?_
 refine C0 (c_i_rowsBehind n.S.T f (by have:=hn.2.1.1; omega)) ?_
 have hB:(behind f n.S.T.Rows).length≤n.S.T.Rows.length:=List.length_filter_le _ _
 have hB2:∀ r∈behind f n.S.T.Rows,r.In (2 ^ 20):=fun r hr=>hn.2.1.2 r (List.mem_filter.1 hr).1
 have e:n.step f=(bif (stepN n.S.T.Phase n ((behind f n.S.T.Rows).take 2)).2 then ((stepN n.S.T.Phase n ((behind f n.S.T.Rows).take 2)).1,lastKey f ((behind f n.S.T.Rows).take 2),bif decide (((behind f n.S.T.Rows).length:Int) > 2) then 0 else 1,true) else ((stepN n.S.T.Phase n ((behind f n.S.T.Rows).take 2)).1,f,0,false)):=by rw [NodeV.step,g1,g2]; rfl
 rw [e]
 clear e
 generalize behind f n.S.T.Rows=B at hB hB2
 have hBr:B.length≤2 ^ 20:=by have:=hn.2.1.1; omega
 have ek:(bif decide ((B.length:Int) < 2) then (B.length:Int) else 2)=((B.take 2).length:Nat):=by
  rw [List.length_take]
  by_cases h:(B.length:Int) < 2
  ·rw [decide_eq_true h,cond_true]; omega
  ·rw [decide_eq_false h,cond_false]; omega
 rw [ek]
 have hk:(B.take 2).length≤B.length:=by rw [List.length_take]; omega
 have hk2:(B.take 2).length≤2:=by rw [List.length_take]; omega
 have hget:∀ (i:Nat) (h:i < (B.take 2).length) (h2:i < B.length),(B.take 2)[i]=B[i]:=fun i h h2=>List.getElem_take
 generalize B.take 2=C at hk hk2 hget
 generalize hp:n.S.T.Phase=p
 try simp -implicitDefEqProofs (maxSteps:=1000000) only [go_sem,Int.toNat_natCast,hp]
 repeat refine ⟨sc,?_⟩
 try exact sf
 refine loop_of (σ:=Nat×NodeV×List T) (fun x=>⟨[(1,.one (.pv (.string f))),(4,.bp 4 0),(8,.bp 8 0),(9,.one (.pv (.int .i64 p))),(10,.one (.rf 79 0 [] 7 0 B.length)),(11,.one (.pv (.string (lastKey f (C.take x.1))))),(43,.one (.rf 79 0 [] 7 0 C.length)),(44,.one (.pv (.int .i64 C.length))),(45,.one (.pv (.int .i64 x.1)))],[(4,[.nils 1,.nils 2,.pv (.int .i64 0),.pv (.bool false),.nils 7,.pv (.int .i64 0),.nils 3,.pv (.int .i64 0),.pv (.int .i64 0),.pv (.int .i64 0)]),(8,[.rf 80 0 [] 1 0 x.2.1.S.D.Secs.length,.rf 80 1 [] 2 0 x.2.1.S.D.Cache.length,.pv (.int .i64 x.2.1.S.D.Fuse),.pv (.bool x.2.1.S.D.Down),.rf 80 4 [] 7 0 x.2.1.S.T.Rows.length,.pv (.int .i64 x.2.1.S.T.Phase),.rf 80 6 [] 3 0 x.2.1.S.T.Marks.length,.pv (.int .i64 x.2.1.S.Gen),.pv (.int .i64 x.2.1.S.Place),.pv (.int .i64 x.2.1.Cs)])],[(0,n.enc false),(1,[sT f]),(79,[slT true 7 (RowV.enc false) B]),(80,x.2.1.enc true++x.2.2)]⟩) (fun x=>x.1≤C.length∧stepN p n (C.take x.1)=(x.2.1,true)∧x.2.1.In (2 ^ 20)) (fun x=>C.length - x.1) (0,n,[]) ?_ ⟨Nat.zero_le _,rfl,hn⟩ ?_
 ·simp -implicitDefEqProofs (maxSteps:=1000000) only [go_sem,lastKey,List.take_zero,List.getLast?_nil,List.append_nil,hp]
  try rfl
 ·rintro ⟨i,cur,E⟩ ⟨hi,hs,hc⟩
  simp only at hi hs hc
  cases q:decide ((i:Int) < (C.length:Int))
  ·have hC:C.take i=C:=List.take_of_length_le (by simp only [decide_eq_false_iff_not] at q; omega)
   rw [hC] at hs ⊢
   rw [hs]
   cases g:decide ((B.length:Int) > 2)
   ·exact F2 q g
   ·exact F2 q g
  ·have k1:i < C.length:=by simp only [decide_eq_true_eq] at q; omega
   have k2:i < B.length:=by omega
   have hr:=hB2 _ (List.getElem_mem k2)
   have et:C.take (i + 1)=C.take i++[B[i]]:=by rw [List.take_succ_eq_append_getElem k1,hget i k1 k2]
   have ew:IntKind.i64.wrap ((i:Int) + 1)=((i + 1:Nat):Int):=IntWalk.i64_in _ (by omega)
   have e1:stepN p n (C.take (i + 1))=stepN p cur [B[i]]:=by rw [et,stepN_app,hs]; rfl
   have e2:lastKey f (C.take (i + 1))=B[i].Key:=by rw [et,lastKey_snoc]
   try simp -implicitDefEqProofs (maxSteps:=1000000) only [go_sem,q,List.getD_eq_getElem?_getD,List.getElem?_eq_getElem k2]
   repeat refine ⟨sc,?_⟩
   try exact sf
   refine C0 (c_i_turnedRow p B[i] hr) ?_
   refine C0 (c_i_sameRow (turned p B[i]) B[i]) ?_
   cases g3:rowSame (turned p B[i]) B[i]
   ·refine G1 g3 ?_
    refine C0 (c_i_added cur (recRow (turned p B[i])) hc ⟨turned_in hr,Nat.zero_le _⟩) ?_
    cases g4:(cur.S.add (recRow (turned p B[i]))).2
    ·have e3:stepN p n C=(cur.added (recRow (turned p B[i])),false):=by
      rw [← List.take_append_drop (i + 1) C,stepN_app,e1,stepN,g3,g4]; rfl
     rw [e3]
     try simp -implicitDefEqProofs (maxSteps:=1000000) only [go_sem,g4,take_all,take_marks,NodeV.added]
     repeat refine ⟨sc,?_⟩
     try exact sf
     try rfl
    ·have e3:stepN p n (C.take (i + 1))=(cur.added (recRow (turned p B[i])),true):=by rw [e1,stepN,g3,g4]; rfl
     refine G1 g4 ?_
     refine ⟨(i + 1,cur.added (recRow (turned p B[i])),[bT true]),?_,⟨k1,e3,add_in2 _ hc⟩,by simp only; omega⟩
     rw [ew]
     simp only [e2]
     try rfl
   ·have e3:stepN p n (C.take (i + 1))=(cur,true):=by rw [e1,stepN,g3]; rfl
    refine G1 g3 ?_
    refine ⟨(i + 1,cur,E),?_,⟨k1,e3,hc⟩,by simp only; omega⟩
    rw [ew]
    simp only [e2]
    try rfl
def x_i_DevOk:FnX:=⟨57,[.tmp 2],
  .q [.v 1 0,.F 2]
 (.seq (.q [.f 7 1 0,.l 8 7,.n 9 8,.op 10 (.call 90 [0,0,0] [(.t 9),(.i 1),(.i 64)]),.N 11 10,.m 12 11,.z 12 (.f 13 1 1),.z 12 (.l 14 13),.z 12 (.n 15 14),.z 12 (.B 16 .gtr 15 40),.r 17 12 16,.m 18 17,.z 18 (.f 19 1 2),.z 18 (.l 20 19),.z 18 (.op 21 (.call 90 [0,0,0] [(.t 20),(.i (-1)),(.i 1000)])),.z 18 (.N 22 21),.r 23 18 22]
 (.c 23 (.q [.F 2]
 .ret)))
 (.seq (.q [.f 24 1 0,.l 25 24,.n 26 25,.i 27 0]
 (.block 0 (.loop [1,25,26,27] (.q [.b 28 .lss 27 26]
 (.seq (.cond 28 .skip (.exit 0))
 (.seq (.block 1 (.q [.x 29 1 25 27,.l 30 29,.m 4 30]
 (.q [.m 31 4,.n 32 31,.B 33 .gtr 32 120]
 (.c 33 (.q [.F 2]
 .ret)))))
 (.reg [.B 34 .add 27 1,.m 27 34])))))))
 (.norm [1] (.seq (.q [.f 35 1 1,.l 36 35,.n 37 36,.i 38 0]
 (.block 2 (.loop [1,36,37,38] (.q [.b 39 .lss 38 37]
 (.seq (.cond 39 .skip (.exit 2))
 (.seq (.block 3 (.q [.x 40 2 36 38,.L 41 2 40,.op 6 (.alloc [.i 0,.nils 1]),.s 100001 2 6 41]
 (.q [.f 42 6 0,.l 43 42,.f 44 1 0,.l 45 44,.n 46 45,.B 47 .sub 46 1,.op 48 (.call 90 [0,0,0] [(.t 43),(.i 0),(.t 47)]),.N 49 48,.m 50 49,.z 50 (.f 51 6 1),.z 50 (.l 52 51),.z 50 (.n 53 52),.z 50 (.B 54 .gtr 53 120),.r 55 50 54]
 (.c 55 (.q [.F 2]
 .ret)))))
 (.reg [.B 56 .add 38 1,.m 38 56])))))))
 (.norm [] (.q [.T 2]
 .ret))))))⟩
theorem r_i_DevOk {Te:TE} (c_i_within:C_i_within Te):C_i_DevOk (RF Te x_i_DevOk):=by
 intro d h
 obtain ⟨⟨hl,hS⟩,hl2,hC⟩:=h
 have ws:IntKind.i64.wrap ((d.Secs.length:Int) - 1)=(d.Secs.length:Int) - 1:=IntWalk.i64_in _ (by omega)
 refine X0 x_i_DevOk.eq_1 ?_
 refine C0 (c_i_within _ _ _) ?_
 cases g1:win (d.Secs.length:Int) 1 64
 ·have e:d.ok=false:=by simp only [DevV.ok,g1,Bool.false_and]
  exact F1 e
 cases g2:decide ((d.Cache.length:Int) > 40)
 ·have g2':decide ((d.Cache.length:Int)≤40)=true:=by rw [gt_le] at g2; simpa using g2
  refine G1 g2 ?_
  refine C0 (c_i_within _ _ _) ?_
  cases g3:win d.Fuse (-1) 1000
  ·have e:d.ok=false:=by simp only [DevV.ok,g3,Bool.and_false,Bool.false_and]
   exact F1 e
  simp -implicitDefEqProofs (maxSteps:=1000000) only [go_sem,true_implies,false_implies,true_and]
  refine loop_of (σ:=Nat) (fun i=>⟨[(1,.bp 1 0),(25,.one (.ro 1 (d.Secs.map (fun y=>[slT false 1 uR y])))),(26,.one (.pv (.int .i64 d.Secs.length))),(27,.one (.pv (.int .i64 i)))],[(1,[.ro 1 (d.Secs.map (fun y=>[slT false 1 uR y])),.ro 2 (d.Cache.map (WrV.enc false)),.pv (.int .i64 d.Fuse),.pv (.bool d.Down)])],[(0,d.enc false)]⟩) (fun i=>i≤d.Secs.length∧(d.Secs.take i).all (secGood)=true) (fun i=>d.Secs.length - i) 0 ?_ ⟨Nat.zero_le _,rfl⟩ ?_
  ·simp -implicitDefEqProofs (maxSteps:=1000000) only [go_sem]
   try rfl
  ·rintro i ⟨hi,hp⟩
   cases q:decide ((i:Int) < (d.Secs.length:Int))
   ·have eS:=all_end (p:=secGood) (show d.Secs.length≤i by simp only [decide_eq_false_iff_not] at q; omega) hp
    refine G1 q ?_
    refine loop_of (σ:=Nat) (fun i=>⟨[(1,.bp 1 0),(36,.one (.ro 2 (d.Cache.map (WrV.enc false)))),(37,.one (.pv (.int .i64 d.Cache.length))),(38,.one (.pv (.int .i64 i)))],[(1,[.ro 1 (d.Secs.map (fun y=>[slT false 1 uR y])),.ro 2 (d.Cache.map (WrV.enc false)),.pv (.int .i64 d.Fuse),.pv (.bool d.Down)])],[(0,d.enc false)]⟩) (fun i=>i≤d.Cache.length∧(d.Cache.take i).all (wrGood d.Secs.length)=true) (fun i=>d.Cache.length - i) 0 ?_ ⟨Nat.zero_le _,rfl⟩ ?_
    ·simp -implicitDefEqProofs (maxSteps:=1000000) only [go_sem]
     try rfl
    ·rintro i ⟨hi,hp⟩
     cases q:decide ((i:Int) < (d.Cache.length:Int))
     ·have eC:=all_end (p:=wrGood d.Secs.length) (show d.Cache.length≤i by simp only [decide_eq_false_iff_not] at q; omega) hp
      refine G1 q ?_
      have e:d.ok=true:=by simp only [DevV.ok,g1,g2',g3,eS,eC,Bool.and_true]
      exact F1 e
     ·have k1:i < d.Cache.length:=by simp only [decide_eq_true_eq] at q; omega
      refine G3 q (List.getElem?_eq_getElem k1) ws ?_
      refine C0 (c_i_within _ _ _) ?_
      cases g:win d.Cache[i].N 0 ((d.Secs.length:Int) - 1)
      ·have gg:wrGood d.Secs.length d.Cache[i]=false:=by simp only [wrGood,g,Bool.false_and]
       have e:d.ok=false:=by simp only [DevV.ok,all_not (p:=wrGood d.Secs.length) k1 gg,Bool.and_false]
       exact F1 e
      ·cases g2:decide ((d.Cache[i].B.length:Int) > 120)
       ·refine G2 g2 (List.getElem?_eq_getElem k1) ?_
        exact ⟨i + 1,by rw [IntWalk.i64_in _ (by omega)]; rfl,⟨k1,all_step (p:=wrGood d.Secs.length) k1 hp (by simp only [wrGood,g,g2,Bool.not_false,Bool.and_true])⟩,by omega⟩
       ·have gg:wrGood d.Secs.length d.Cache[i]=false:=by simp only [wrGood,g2,Bool.not_true,Bool.and_false]
        have e:d.ok=false:=by simp only [DevV.ok,all_not (p:=wrGood d.Secs.length) k1 gg,Bool.and_false]
        exact F3 g2 (List.getElem?_eq_getElem k1) e
   ·have k1:i < d.Secs.length:=by simp only [decide_eq_true_eq] at q; omega
    cases g:decide ((d.Secs[i].length:Int) > 120)
    ·refine G3 q (List.getElem?_eq_getElem k1) g ?_
     exact ⟨i + 1,by rw [IntWalk.i64_in _ (by omega)]; rfl,⟨k1,all_step (p:=secGood) k1 hp (by simp only [secGood,g,Bool.not_false])⟩,by omega⟩
    ·have gg:secGood d.Secs[i]=false:=by simp only [secGood,g,Bool.not_true]
     have e:d.ok=false:=by simp only [DevV.ok,all_not (p:=secGood) k1 gg,Bool.and_false,Bool.false_and]
     exact F4 q (List.getElem?_eq_getElem k1) g e
 ·have g2':decide ((d.Cache.length:Int)≤40)=false:=by rw [gt_le] at g2; simpa using g2
  have e:d.ok=false:=by simp only [DevV.ok,g2',Bool.and_false,Bool.false_and]
  exact F2 g2 e
def x_i_FlushDev:FnX:=⟨44,[.cell 2 (some 4)],
  .q [.v 1 0,.op 2 (.alloc [.nils 1,.nils 2,.i 0,.F])]
 (.q [.L 7 4 1,.c 8 245 [7],.op 3 (.alloc [.nils 1,.nils 2,.i 0,.F]),.s 100001 4 3 8]
 (.seq (.q [.L 9 4 1,.c 10 178 [9],.N 11 10,.m 12 11,.z 12 (.f 13 1 3),.z 12 (.l 14 13),.r 15 12 14]
 (.c 15 (.q [.L 16 4 3,.s 100002 4 2 16]
 .ret)))
 (.q [.L 18 4 3,.op 19 (.call 311 [1] [(.t 18)]),.m 17 19,.e 20 17 0,.e 21 17 1,.s 100003 4 3 20,.m 4 21]
 (.seq (.q [.m 22 4,.N 23 22]
 (.c 23 (.q [.L 24 4 3,.s 100004 4 2 24]
 .ret)))
 (.seq (.q [.f 25 3 1,.l 26 25,.n 27 26,.i 28 0]
 (.block 0 (.loop [2,3,26,27,28] (.q [.b 29 .lss 28 27]
 (.seq (.cond 29 .skip (.exit 0))
 (.seq (.block 1 (.q [.x 30 2 26 28,.L 31 2 30,.op 6 (.alloc [.i 0,.nils 1]),.s 100005 2 6 31]
 (.draw [.f 32 3 0,.l 33 32,.f 34 6 0,.l 35 34,.f 36 6 1,.l 37 36,.op 38 (.bslice 1 [(.t 37)]),.c 39 100 [38],.x 40 1 33 35,.s 100006 1 40 39] [[],[0],[],[2],[],[4],[5],[6],[1,3,0,1,2,3,4,5,6,7],[8,7,7,0,1,2,3,4,5,6,7]])))
 (.reg [.B 41 .add 28 1,.m 28 41])))))))
 (.norm [2,3] (.q [.f 42 3 1,⟨none,none,100007,.store 1 (.t 42) (.k (.one (.nils 2)))⟩]
 (.q [.L 43 4 3,.s 100008 4 2 43]
 .ret))))))))⟩
theorem r_i_FlushDev {Te:TE} (c_i_copyDev:C_i_copyDev Te) (c_i_DevOk:C_i_DevOk Te) (c_i_burn:C_i_burn Te) (c_i_joined:C_i_joined Te):C_i_FlushDev (RF Te x_i_FlushDev):=by
 intro d hk
 have hin:=DevV.ok_in hk
 have h40:=DevV.ok_cache hk
 have hL:=hin.len (by decide)
 have hidx:=DevV.ok_idx hk
 refine X0 x_i_FlushDev.eq_1 ?_
 refine C0 (c_i_copyDev d hL) ?_
 refine C1 (c_i_DevOk d (hin.mono (by decide))) hk ?_
 cases g1:d.Down
 rotate_left
 ·have e:d.flush=d:=by rw [DevV.flush,if_pos g1]
  try simp -implicitDefEqProofs (maxSteps:=1000000) only [go_sem,g1,e,take_all,DevV.enc]
  repeat refine ⟨sc,?_⟩
  try exact sf
  try rfl
 have e:=show d.flush=if d.Fuse=0 then d.burn else ⟨flushed d.Secs d.Cache,[],d.burn.Fuse,d.burn.Down⟩ from if_neg (by rw [g1]; decide)
 refine G1 g1 ?_
 have tb:=c_i_burn d
 simp only [DevV.enc,g1] at tb
 have bc:=burn_cache d
 have bs:=burn_secs d
 cases g6:(d.Fuse==0)
 rotate_left
 ·have g7:d.Fuse=0:=by simpa using g6
  rw [if_pos g7] at e
  refine .of (tb) ?_
  try simp -implicitDefEqProofs (maxSteps:=1000000) only [go_sem,g6,take_all,e,g1,DevV.enc]
  repeat refine ⟨sc,?_⟩
  try exact sf
  try rfl
 have g7:¬ d.Fuse=0:=by simpa using g6
 rw [if_neg g7] at e
 refine C1 (tb) g6 ?_
 refine loop_of (σ:=Nat×List (List UInt8)) (fun x=>⟨[(2,.bp 2 0),(3,.bp 3 0),(26,.one (.rf 45 1 [] 2 0 d.Cache.length)),(27,.one (.pv (.int .i64 d.Cache.length))),(28,.one (.pv (.int .i64 x.1)))],[(2,[.nils 1,.nils 2,.pv (.int .i64 0),.pv (.bool false)]),(3,[.rf 45 0 [] 1 0 d.Secs.length,.rf 45 1 [] 2 0 d.Cache.length,.pv (.int .i64 d.burn.Fuse),.pv (.bool d.burn.Down)])],[(0,d.enc false),(45,[slT true 1 (secR true) x.2,Tr.sl true 2 () (mvRows d.Cache x.1),iT d.burn.Fuse,bT d.burn.Down,bT true])]⟩) (fun x=>x.1≤d.Cache.length∧x.2=flushed d.Secs (d.Cache.take x.1)) (fun x=>d.Cache.length - x.1) (0,d.Secs) ?_ ⟨Nat.zero_le _,rfl⟩ ?_
 ·simp -implicitDefEqProofs (maxSteps:=1000000) only [go_sem,bs,bc]
  try rfl
 ·rintro ⟨i,S⟩ ⟨hi,he⟩
  simp only at hi he
  have hl:S.length=d.Secs.length:=by rw [he,flushed_len]
  have hl2:(List.map (secR true) S).length=d.Secs.length:=by rw [List.length_map,hl]
  cases q:decide ((i:Int) < (d.Cache.length:Int))
  ·have k0:i=d.Cache.length:=by simp only [decide_eq_false_iff_not] at q; omega
   rw [k0,List.take_length] at he
   have et:List.take d.Secs.length (List.map (secR true) S)=List.map (secR true) S:=List.take_of_length_le (by omega)
   rw [← he] at e
   exact F3 q et e
  ·have k1:i < d.Cache.length:=by simp only [decide_eq_true_eq] at q; omega
   have hw:=hidx _ (List.getElem_mem k1)
   have hb:d.Cache[i].B.length≤2 ^ 20:=hin.2.2 _ (List.getElem_mem k1)
   have g8:decide (0≤d.Cache[i].N)=true:=decide_eq_true hw.1
   have hn:d.Cache[i].N.toNat < S.length:=by omega
   have em:=mv_get k1
   have ec:(mvRows d.Cache i).getD i []=d.Cache[i].enc true:=by rw [List.getD_eq_getElem?_getD,em]; rfl
   have ex:=mv_set k1
   have eg:=getS hn
   have es:=setS S d.Cache[i].N.toNat d.Cache[i].B
   try simp -implicitDefEqProofs (maxSteps:=1000000) only [go_sem,q,em,ec,ex,mv_len]
   repeat refine ⟨sc,?_⟩
   try exact sf
   refine .of (c_i_joined [d.Cache[i].B] (by rw [flat1]; omega) (by show 1≤2 ^ 31; decide)) ?_
   try simp -implicitDefEqProofs (maxSteps:=1000000) only [go_sem,flat1,take_all,g8,em,ec,ex,mv_len,storeAp,setCells,eg,es,hl2]
   repeat refine ⟨sc,?_⟩
   try exact sf
   refine ⟨(i + 1,S.set d.Cache[i].N.toNat d.Cache[i].B),?_,⟨k1,by rw [he,flushed_step k1]⟩,by simp only; omega⟩
   rw [IntWalk.i64_in _ (by omega)]
   rfl
def x_i_PairSign:FnX:=⟨26,[.tmp 4,.tmp 5],
  .q [.i 4 0,.F 5]
 (.seq (.block 0 (.q [.m 7 0,.B 8 .eql 7 164,.m 9 8,.y 9 (.m 10 1),.y 9 (.op 11 (.call 90 [0,0,0] [(.t 10),(.i 161),(.i 243)])),.a 12 9 11,.m 6 12]
 (.cond 6 (.q [.m 13 1,.op 14 (.bin .add (.i 12353) (.t 13)),.B 15 .sub 14 161,.m 4 15,.T 5]
 .ret) (.q [.m 17 0,.B 18 .eql 17 165,.m 19 18,.y 19 (.m 20 1),.y 19 (.op 21 (.call 90 [0,0,0] [(.t 20),(.i 161),(.i 246)])),.a 22 19 21,.m 16 22]
 (.c 16 (.q [.m 23 1,.op 24 (.bin .add (.i 12449) (.t 23)),.B 25 .sub 24 161,.m 4 25,.T 5]
 .ret))))))
 (.q [.i 4 0,.F 5]
 .ret))⟩
theorem r_i_PairSign {Te:TE} (c_i_within:C_i_within Te):C_i_PairSign (RF Te x_i_PairSign):=by
 intro hi lo h
 refine run0 ?_
 have w1:IntKind.i64.wrap (12353 + lo)=12353 + lo:=IntWalk.i64_in _ (by omega)
 have w2:IntKind.i64.wrap (12353 + lo - 161)=12353 + lo - 161:=IntWalk.i64_in _ (by omega)
 have w3:IntKind.i64.wrap (12449 + lo)=12449 + lo:=IntWalk.i64_in _ (by omega)
 have w4:IntKind.i64.wrap (12449 + lo - 161)=12449 + lo - 161:=IntWalk.i64_in _ (by omega)
 have no:∀ a b c d:Bool,(a&&b)=false→(c&&d)=false→True:=fun _ _ _ _ _ _=>trivial
 cases g1:(hi==164)
 ·cases g3:(hi==165)
  ·have e:pairSign hi lo=(0,false):=by rw [pairSign,g1,g3]; rfl
   simp -implicitDefEqProofs (maxSteps:=1000000) only [x_i_PairSign,go_sem,g1,g3,e]
   repeat refine ⟨sc,?_⟩
   try exact sf
  ·simp -implicitDefEqProofs (maxSteps:=1000000) only [x_i_PairSign,go_sem,g1,g3]
   repeat refine ⟨sc,?_⟩
   try exact sf
   refine C0 (c_i_within _ _ _) ?_
   cases g4:win lo 161 246
   ·have e:pairSign hi lo=(0,false):=by rw [pairSign,g1,g3,g4]; rfl
    exact F1 e
   ·have e:pairSign hi lo=(12449 + lo - 161,true):=by rw [pairSign,g1,g3,g4]; rfl
    exact F3 e w3 w4
 ·have g3:(hi==165)=false:=by have:=eq_of_beq g1; subst this; rfl
  simp -implicitDefEqProofs (maxSteps:=1000000) only [x_i_PairSign,go_sem,g1]
  repeat refine ⟨sc,?_⟩
  try exact sf
  refine C0 (c_i_within _ _ _) ?_
  cases g4:win lo 161 243
  ·have e:pairSign hi lo=(0,false):=by rw [pairSign,g1,g3,g4]; rfl
   exact F2 g3 e
  ·have e:pairSign hi lo=(12353 + lo - 161,true):=by rw [pairSign,g1,g4]; rfl
   exact F3 e w1 w2
def x_s_PairSign:FnX:=⟨26,[.tmp 4,.tmp 5],
  .q [.i 4 0,.F 5]
 (.seq (.block 0 (.q [.m 7 0,.B 8 .eql 7 164,.m 9 8,.y 9 (.m 10 1),.y 9 (.op 11 (.call 120 [0,0,0] [(.t 10),(.i 161),(.i 243)])),.a 12 9 11,.m 6 12]
 (.cond 6 (.q [.m 13 1,.op 14 (.bin .add (.i 12353) (.t 13)),.B 15 .sub 14 161,.m 4 15,.T 5]
 .ret) (.q [.m 17 0,.B 18 .eql 17 165,.m 19 18,.y 19 (.m 20 1),.y 19 (.op 21 (.call 120 [0,0,0] [(.t 20),(.i 161),(.i 246)])),.a 22 19 21,.m 16 22]
 (.c 16 (.q [.m 23 1,.op 24 (.bin .add (.i 12449) (.t 23)),.B 25 .sub 24 161,.m 4 25,.T 5]
 .ret))))))
 (.q [.i 4 0,.F 5]
 .ret))⟩
theorem r_s_PairSign {Te:TE} (c_s_l1In:C_s_l1In Te):C_s_PairSign (RF Te x_s_PairSign):=by
 intro hi lo h
 refine run0 ?_
 have w1:IntKind.i64.wrap (12353 + lo)=12353 + lo:=IntWalk.i64_in _ (by omega)
 have w2:IntKind.i64.wrap (12353 + lo - 161)=12353 + lo - 161:=IntWalk.i64_in _ (by omega)
 have w3:IntKind.i64.wrap (12449 + lo)=12449 + lo:=IntWalk.i64_in _ (by omega)
 have w4:IntKind.i64.wrap (12449 + lo - 161)=12449 + lo - 161:=IntWalk.i64_in _ (by omega)
 have no:∀ a b c d:Bool,(a&&b)=false→(c&&d)=false→True:=fun _ _ _ _ _ _=>trivial
 cases g1:(hi==164)
 ·cases g3:(hi==165)
  ·have e:pairSign hi lo=(0,false):=by rw [pairSign,g1,g3]; rfl
   simp -implicitDefEqProofs (maxSteps:=1000000) only [x_s_PairSign,go_sem,g1,g3,e]
   repeat refine ⟨sc,?_⟩
   try exact sf
  ·simp -implicitDefEqProofs (maxSteps:=1000000) only [x_s_PairSign,go_sem,g1,g3]
   repeat refine ⟨sc,?_⟩
   try exact sf
   refine C0 (c_s_l1In _ _ _) ?_
   cases g4:win lo 161 246
   ·have e:pairSign hi lo=(0,false):=by rw [pairSign,g1,g3,g4]; rfl
    exact F1 e
   ·have e:pairSign hi lo=(12449 + lo - 161,true):=by rw [pairSign,g1,g3,g4]; rfl
    exact F3 e w3 w4
 ·have g3:(hi==165)=false:=by have:=eq_of_beq g1; subst this; rfl
  simp -implicitDefEqProofs (maxSteps:=1000000) only [x_s_PairSign,go_sem,g1]
  repeat refine ⟨sc,?_⟩
  try exact sf
  refine C0 (c_s_l1In _ _ _) ?_
  cases g4:win lo 161 243
  ·have e:pairSign hi lo=(0,false):=by rw [pairSign,g1,g3,g4]; rfl
   exact F2 g3 e
  ·have e:pairSign hi lo=(12353 + lo - 161,true):=by rw [pairSign,g1,g4]; rfl
   exact F3 e w1 w2
def x_s_Decode:FnX:=⟨35,[.tmp 4,.tmp 5],
  .q [.op 4 (.mv (.k (.one (.pv (.string ⟨#[]⟩))))),.F 5]
 (.q [.op 11 (.bslice 1 []),.m 6 11]
 (.seq (.q [.m 12 0,.c 13 187 [12],.N 14 13]
 (.c 14 (.q [.op 4 (.mv (.k (.one (.pv (.string ⟨#[]⟩))))),.F 5]
 .ret)))
 (.seq (.q [.i 7 0]
 (.block 0 (.loop [0,1,6,7] (.seq (.q [.m 15 7,.m 16 1,.n 17 16,.b 18 .lss 15 17]
 (.cond 18 .skip (.exit 0)))
 (.block 1 (.q [.m 20 0,.m 21 1,.m 22 7,.c 23 188 [20,21,22],.m 19 23,.e 24 19 0,.e 25 19 1,.e 26 19 2,.m 8 24,.m 9 25,.m 10 26]
 (.seq (.q [.m 27 10,.N 28 27]
 (.c 28 (.q [.op 4 (.mv (.k (.one (.pv (.string ⟨#[]⟩))))),.F 5]
 .ret)))
 (.q [.m 29 6,.m 30 8,.c 31 189 [29,30],.m 6 31]
 (.reg [.m 32 9,.m 7 32])))))))))
 (.norm [6] (.q [.m 33 6,.op 34 (.conv .b2s (.t 33)),.m 4 34,.T 5]
 .ret)))))⟩
theorem r_s_Decode {Te:TE} (c_s_l5Cs:C_s_l5Cs Te) (c_s_l5Get:C_s_l5Get Te) (c_s_PutSign:C_s_PutSign Te):C_s_Decode (RF Te x_s_Decode):=by
 intro cs b hb
 cases g:win cs 0 5
 ·have e:decode cs b=(⟨#[]⟩,false):=by rw [decode,g]; rfl
  refine X0 x_s_Decode.eq_1 ?_
  exact D2 (c_s_l5Cs _) g e
 ·have e:decode cs b=decGo cs b b.length 0 []:=by rw [decode,g]; rfl
  rw [e]
  generalize hD:decGo cs b b.length 0 []=D
  refine X0 x_s_Decode.eq_1 ?_
  refine C1 (c_s_l5Cs _) g ?_
  refine loop_of (σ:=Nat×Nat×List UInt8) (fun x=>⟨[(0,.one (.pv (.int .i64 cs))),(1,.one (.ro 1 (b.map uR))),(6,.one (.rf 37 0 [] 1 0 x.2.2.length)),(7,.one (.pv (.int .i64 x.2.1)))],[],[(0,[iT cs]),(1,[slT false 1 uR b]),(37,[slT true 1 uR x.2.2])]⟩) (fun x=>x.2.1≤b.length∧b.length≤x.1 + x.2.1∧x.2.2.length≤4 * x.2.1∧decGo cs b x.1 x.2.1 x.2.2=D) (fun x=>b.length - x.2.1) (b.length,0,[]) ?_ ⟨Nat.zero_le _,Nat.le_refl _,Nat.zero_le _,hD⟩ ?_
  ·simp -implicitDefEqProofs (maxSteps:=1000000) only [go_sem]
   try rfl
  ·rintro ⟨fu,i,out⟩ ⟨hi,hf,ho,hd⟩
   simp only at hi hf ho hd
   cases q:decide ((i:Int) < (b.length:Int))
   ·have hq:¬ (i:Int) < (b.length:Int):=by simpa using q
    rw [dec_end hq] at hd
    subst hd
    refine G1 q ?_
    refine ⟨areBytes_uR out,?_⟩
    rw [bytesOf_uD]
    try rfl
   ·have hq:(i:Int) < (b.length:Int):=by simpa using q
    obtain ⟨f,rfl⟩:∃ f,fu=f + 1:=⟨fu - 1,by omega⟩
    have hs:=c_s_l5Get cs b i (by omega) ⟨by omega,hq⟩
    cases g2:(signIn cs b i).2.2
    ·rw [dec_bad hq g2] at hd
     subst hd
     refine G1 q ?_
     exact D1 (hs) g2
    ·rw [dec_step hq g2] at hd
     have hn:=signIn_next ⟨by omega,hq⟩ g2
     generalize signIn cs b i=r at hs g2 hd hn
     obtain ⟨n,nx,ok⟩:=r
     simp only at hs g2 hd hn
     subst g2
     obtain ⟨j,rfl⟩:∃ j:Nat,nx=j:=⟨nx.toNat,by omega⟩
     have hl:=putSign_len out n
     refine G1 q ?_
     refine C0 (hs) ?_
     refine C0 (c_s_PutSign out n (by omega)) ?_
     exact ⟨(f,j,putSign out n),rfl,⟨by simp only; omega,by simp only; omega,by simp only; omega,hd⟩,by simp only; omega⟩
end Go.X

