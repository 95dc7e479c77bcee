/- Texts: CVe_3 CVu_3 CVzb CVl CVm CQ CVg_2 CEb_2 CEa CEa_4 CV CVg_4. -/
import Derived.Test.YtlfciaccddhhoaaGreatDoorC04
set_option linter.unusedVariables false
set_option linter.unusedSimpArgs false
namespace Go.X
set_option maxRecDepth 100000
set_option maxHeartbeats 8000000
def x_s_RowOk:FnX:=⟨106,[.tmp 2],
  .q [.v 1 0,.F 2]
 (.seq (.q [.f 7 1 0,.l 8 7,.c 9 29 [8],.N 10 9,.m 11 10,.z 11 (.f 12 1 5),.z 11 (.l 13 12),.z 11 (.op 14 (.call 64 [0,0,0] [(.t 13),(.i 1),(.i 3)])),.z 11 (.N 15 14),.r 16 11 15,.m 17 16,.z 17 (.L 18 7 1),.z 17 (.c 19 163 [18]),.z 17 (.N 20 19),.z 17 (.m 21 20),.y 21 (.f 22 1 1),.y 21 (.L 23 2 22),.y 21 (.c 24 215 [23]),.y 21 (.N 25 24),.z 17 (.a 26 21 25),.r 27 17 26,.m 28 27,.z 28 (.L 29 7 1),.z 28 (.c 30 161 [29]),.z 28 (.N 31 30),.z 28 (.m 32 31),.y 32 (.f 33 1 3),.y 32 (.L 34 2 33),.y 32 (.c 35 215 [34]),.y 32 (.N 36 35),.z 28 (.a 37 32 36),.r 38 28 37]
 (.c 38 (.q [.F 2]
 .ret)))
 (.q [.f 40 1 1,.L 41 2 40,.c 42 216 [41],.m 39 42,.e 43 39 0,.e 44 39 1,.m 3 43,.m 4 44]
 (.q [.f 46 1 3,.L 47 2 46,.c 48 216 [47],.m 45 48,.e 49 45 0,.e 50 45 1,.m 5 49,.m 6 50]
 (.seq (.block 0 (.q [.L 52 7 1,.c 53 163 [52],.m 54 53,.y 54 (.f 55 1 1),.y 54 (.f 56 55 0),.y 54 (.l 57 56),.y 54 (.op 58 (.call 64 [0,0,0] [(.t 57),(.i 1),(.i 5)])),.y 54 (.N 59 58),.y 54 (.m 60 59),.z 60 (.f 61 1 1),.z 60 (.L 62 2 61),.z 60 (.c 63 217 [62]),.z 60 (.N 64 63),.y 54 (.r 65 60 64),.a 66 54 65,.m 51 66]
 (.cond 51 (.q [.F 2]
 .ret) (.q [.L 68 7 1,.c 69 161 [68],.m 70 69,.y 70 (.f 71 1 3),.y 70 (.f 72 71 0),.y 70 (.l 73 72),.y 70 (.B 74 .neq 73 0),.y 70 (.m 75 74),.z 75 (.m 76 6),.z 75 (.N 77 76),.y 70 (.r 78 75 77),.a 79 70 78,.m 67 79]
 (.cond 67 (.q [.F 2]
 .ret) (.q [.L 81 7 1,.c 82 163 [81],.m 83 82,.y 83 (.m 84 4),.y 83 (.N 85 84),.a 86 83 85,.m 87 86,.y 87 (.f 88 1 6),.y 87 (.l 89 88),.y 87 (.N 90 89),.y 87 (.m 91 90),.z 91 (.L 92 7 1),.z 91 (.c 93 161 [92]),.y 87 (.r 94 91 93),.a 95 87 94,.m 80 95]
 (.c 80 (.q [.F 2]
 .ret))))))))
 (.q [.f 96 1 5,.l 97 96,.B 98 .neq 97 3,.m 99 98,.z 99 (.f 100 1 1),.z 99 (.L 101 2 100),.z 99 (.f 102 1 3),.z 99 (.L 103 2 102),.z 99 (.c 104 218 [101,103]),.r 105 99 104,.m 2 105]
 .ret)))))⟩
theorem r_s_RowOk {Te:TE} (c_s_NameOk:C_s_NameOk Te) (c_s_l1In:C_s_l1In Te) (c_s_l9Old:C_s_l9Old Te) (c_s_l9None:C_s_l9None Te) (c_s_l9New:C_s_l9New Te) (c_s_CellText:C_s_CellText Te) (c_s_CellOk:C_s_CellOk Te) (c_s_SameText:C_s_SameText Te):C_s_RowOk (RF Te x_s_RowOk):=by
 intro r h
 obtain ⟨hk,_⟩:=h
 refine X0 x_s_RowOk.eq_1 ?_
 refine C0 (c_s_NameOk r.Key hk) ?_
 cases g1:nameOk r.Key
 ·have e:=rowOk_name (r:=r) g1
  exact F1 e
 refine G0 ?_
 refine C0 (c_s_l1In _ _ _) ?_
 cases g2:win r.Has 1 3
 ·have e:=rowOk_has (r:=r) g2
  exact F1 e
 have h3:=win13 g2
 obtain ⟨key,old,new,has,aside⟩:=r
 simp only at h3 g1 hk
 clear g2
 rcases h3 with rfl | rfl | rfl
 ·skip
  have e:=rowOk_1 (o:=old) (n:=new) (a:=aside) g1
  refine G0 ?_
  refine C0 (c_s_l9Old ⟨key,old,new,1,aside⟩ (by simp)) ?_
  refine C0 (c_s_l9New ⟨key,old,new,1,aside⟩ (by simp)) ?_
  refine C0 (c_s_l9None new) ?_
  cases n1:new.no
  ·exact F2 n1 e
  refine G1 n1 ?_
  refine C0 (c_s_CellText old) ?_
  refine C0 (c_s_CellText new) ?_
  refine C0 (c_s_l9Old ⟨key,old,new,1,aside⟩ (by simp)) ?_
  refine C0 (c_s_l1In _ _ _) ?_
  cases w:win old.Tag 1 5
  ·have e2:=tag_no w
   exact F3 w e e2
  have t:=tag_yes w
  refine G1 w ?_
  refine C0 (c_s_CellOk old) ?_
  cases o1:old.ok
  ·exact F2 o1 e
  refine G1 o1 ?_
  refine C0 (c_s_l9New ⟨key,old,new,1,aside⟩ (by simp)) ?_
  refine C0 (c_s_l9Old ⟨key,old,new,1,aside⟩ (by simp)) ?_
  cases o3:old.text.2
  ·cases aside
   ·exact F4 o3 e o1 t
   ·refine G1 o3 ?_
    refine .of (c_s_l9New ⟨key,old,new,1,true⟩ (by simp)) ?_
    try simp -implicitDefEqProofs (maxSteps:=1000000) only [go_sem,e,o1,t,o3,n1]
    repeat refine ⟨sc,?_⟩
    try exact sf
  ·try simp -implicitDefEqProofs (maxSteps:=1000000) only [go_sem,o3,e,o1,t,n1]
   repeat refine ⟨sc,?_⟩
   try exact sf
 ·skip
  have e:=rowOk_2 (o:=old) (n:=new) (a:=aside) g1
  refine G0 ?_
  refine C0 (c_s_l9Old ⟨key,old,new,2,aside⟩ (by simp)) ?_
  refine C0 (c_s_l9None old) ?_
  cases o1:old.no
  ·exact F2 o1 e
  refine G1 o1 ?_
  refine C0 (c_s_l9New ⟨key,old,new,2,aside⟩ (by simp)) ?_
  refine C0 (c_s_CellText old) ?_
  refine C0 (c_s_CellText new) ?_
  refine C0 (c_s_l9Old ⟨key,old,new,2,aside⟩ (by simp)) ?_
  refine C0 (c_s_l9New ⟨key,old,new,2,aside⟩ (by simp)) ?_
  cases n1:(new.Tag==0)
  ·have n1':(new.Tag != 0)=true:=by rw [bne,n1]; rfl
   exact F3 n1' e n1
  have n1':(new.Tag != 0)=false:=by rw [bne,n1]; rfl
  cases n2:new.text.2
  ·exact F3 n1' n2 e
  refine G2 n1' n2 ?_
  exact D4 (c_s_l9Old ⟨key,old,new,2,aside⟩ (by simp)) e o1 n1 n2
 ·skip
  have e:=rowOk_3 (o:=old) (n:=new) (a:=aside) g1
  refine G0 ?_
  refine C0 (c_s_l9Old ⟨key,old,new,3,aside⟩ (by simp)) ?_
  refine C0 (c_s_l9New ⟨key,old,new,3,aside⟩ (by simp)) ?_
  refine C0 (c_s_CellText old) ?_
  refine C0 (c_s_CellText new) ?_
  refine C0 (c_s_l9Old ⟨key,old,new,3,aside⟩ (by simp)) ?_
  refine C0 (c_s_l1In _ _ _) ?_
  cases w:win old.Tag 1 5
  ·have e2:=tag_no w
   exact F3 w e e2
  have t:=tag_yes w
  refine G1 w ?_
  refine C0 (c_s_CellOk old) ?_
  cases o1:old.ok
  ·exact F2 o1 e
  refine G1 o1 ?_
  refine C0 (c_s_l9New ⟨key,old,new,3,aside⟩ (by simp)) ?_
  cases n1:(new.Tag==0)
  ·have n1':(new.Tag != 0)=true:=by rw [bne,n1]; rfl
   exact F3 n1' e n1
  have n1':(new.Tag != 0)=false:=by rw [bne,n1]; rfl
  cases n2:new.text.2
  ·exact F3 n1' n2 e
  refine G2 n1' n2 ?_
  refine C0 (c_s_l9Old ⟨key,old,new,3,aside⟩ (by simp)) ?_
  cases o3:old.text.2
  ·cases aside
   ·exact F4 o3 e o1 t
   ·refine G1 o3 ?_
    exact D2 (c_s_l9New ⟨key,old,new,3,true⟩ (by simp)) e o3
  refine G1 o3 ?_
  refine .of (c_s_SameText old new) ?_
  try simp -implicitDefEqProofs (maxSteps:=1000000) only [go_sem,e,o1,t,o3,n1,n2]
  repeat refine ⟨sc,?_⟩
  try exact sf
def x_s_l13Add_1:XCode:=.seq (.q [.m 37 0,.op 38 (.nilc (.t 37)),.f 39 38 0,.f 40 39 3,.l 41 40,.m 42 41,.z 42 (.m 43 0),.z 42 (.op 44 (.nilc (.t 43))),.z 42 (.f 45 44 8),.z 42 (.l 46 45),.z 42 (.B 47 .eql 46 30),.r 48 42 47]
 (.c 48 (.q [.F 4]
 .ret)))
 (.seq (.draw [.m 49 0,.op 50 (.nilc (.t 49)),.f 51 50 0,.m 52 0,.op 53 (.nilc (.t 52)),.f 54 53 7,.l 55 54,.m 56 0,.op 57 (.nilc (.t 56)),.f 58 57 8,.l 59 58,.c 60 71 [55,59],.m 61 0,.op 62 (.nilc (.t 61)),.f 63 62 7,.l 64 63,.m 65 0,.op 66 (.nilc (.t 65)),.f 67 66 8,.l 68 67,.L 69 13 3,.c 70 72 [64,68,69],.op 71 (.call 70 [6,0,0] [(.t 51),(.t 60),(.t 70)])] [[],[0],[1],[],[3],[4],[5],[],[7],[8],[9],[6,10],[],[12],[13],[14],[],[16],[17],[18],[],[15,19,20,11],[2,11,21,21]])
 (.q [.m 72 0,.op 73 (.nilc (.t 72)),.f 74 73 0,.op 75 (.call 73 [6] [(.t 74)])]
 (.seq (.q [.m 76 0,.op 77 (.nilc (.t 76)),.f 78 77 0,.f 79 78 3,.l 80 79]
 (.c 80 (.q [.F 4]
 .ret)))
 (.q [.m 81 0,.m 82 0,.op 83 (.nilc (.t 82)),.f 84 83 8,.l 85 84,.B 86 .add 85 1,.op 87 (.nilc (.t 81)),.f 88 87 8,.s 100002 1 88 86]
 (.q [.m 89 0,.L 90 3 5,.op 91 (.nilc (.t 89)),.f 92 91 4,.s 100003 3 92 90]
 (.q [.T 4]
 .ret))))))
def x_s_l13Add:FnX:=⟨93,[.tmp 4],
  .q [.v 3 1,.F 4]
 (.seq (.draw [.m 8 0,.op 9 (.nilc (.t 8)),.f 10 9 4,.L 11 3 10,.L 12 13 3,.c 13 68 [11,12],.m 7 13,.e 14 7 0,.e 15 7 1,.op 5 (.alloc [.nils 7,.i 0,.nils 3]),.s 100001 3 5 14,.m 6 15] [[],[0],[1],[2],[],[3,4],[5],[6],[6],[],[9,7,5,0,1,2,3,4,5,6,7,9],[8,10,0,1,2,3,4,5,6,7,8,9,10]])
 (.seq (.q [.m 16 6,.N 17 16]
 (.c 17 (.q [.F 4]
 .ret)))
 (.seq (.q [.m 18 0,.op 19 (.nilc (.t 18)),.f 20 19 8,.l 21 20,.B 22 .eql 21 30,.m 23 22,.y 23 (.m 24 0),.y 23 (.op 25 (.nilc (.t 24))),.y 23 (.f 26 25 7),.y 23 (.l 27 26),.y 23 (.B 28 .lss 27 60000),.a 29 23 28]
 (.c 29 (.reg [.m 30 0,.m 31 0,.op 32 (.nilc (.t 31)),.f 33 32 7,.l 34 33,.B 35 .add 34 1,.op 36 (.call 69 [11,0] [(.t 30),(.t 35)])])))
 (.norm [0,3,5] (x_s_l13Add_1)))))⟩
theorem r_s_l13Add {Te:TE} (c_s_Apply:C_s_Apply Te) (c_s_l13Lay:C_s_l13Lay Te) (c_s_l13At:C_s_l13At Te) (c_s_PutRec:C_s_PutRec Te) (c_s_l10Write:C_s_l10Write Te) (c_s_l10Flush:C_s_l10Flush Te):C_s_l13Add (RF Te x_s_l13Add):=by
 intro s r hk hd hT hr
 have q:=room_ok hk hT
 have hk1:=(StoreV.ok_iff s).1 hk
 refine X0 x_s_l13Add.eq_1 ?_
 refine C0 (c_s_Apply s.T r hT hr) ?_
 cases g3:(s.T.apply r).2
 ·have e:s.add r=(s,false):=by rw [StoreV.add,StoreV.fits,hk,hd,g3]; rfl
  exact F2 g3 e
 have e:s.add r=s.room.end (s.T.apply r).1 r:=by rw [StoreV.add,StoreV.fits,hk,hd,g3]; rfl
 rw [e]
 generalize (s.T.apply r).1=t
 have hr8:=hr.mono (m:=2 ^ 48) (by decide)
 clear e
 cases g4:(s.Place==30)
 ·have er:s.room=s:=by rw [StoreV.room,g4]; rfl
  rw [er] at q ⊢
  have f2:=write_ok q.1 (secOf s.Gen s.Place) (putRec s.Gen s.Place r)
  have hp:=putRec_len s.Gen s.Place r
  have ew:IntKind.i64.wrap (s.Place + 1)=s.Place + 1:=IntWalk.i64_in _ (by omega)
  have hcl:=(DevV.ok_iff _).1 q.1
  have hcl2:=(DevV.ok_iff _).1 f2
  have t1:=c_s_l10Write s.D (secOf s.Gen s.Place) (putRec s.Gen s.Place r) (by omega) (by omega)
  simp only [DevV.enc,hd] at t1
  refine G3 g3 hd g4 ?_
  simp -implicitDefEqProofs (maxSteps:=1000000) only [x_s_l13Add_1,go_sem,g4]
  repeat refine ⟨sc,?_⟩
  refine C0 (c_s_l13At _ _) ?_
  refine C0 (c_s_PutRec s.Gen s.Place r hr8) ?_
  refine C0 (t1) ?_
  refine .of (c_s_l10Flush _ (by omega) (DevV.ok_idx f2)) ?_
  try simp -implicitDefEqProofs (maxSteps:=1000000) only [go_sem,take_all]
  repeat refine ⟨sc,?_⟩
  try exact sf
  have el:((s.D.write (secOf s.Gen s.Place) (putRec s.Gen s.Place r)).flush)=s.log r:=rfl
  rw [el]
  cases g9:(s.log r).Down
  ·have e2:s.end t r=(⟨s.log r,t,s.Gen,s.Place + 1⟩,true):=by rw [StoreV.end,hd,g4,g9]; rfl
   try simp -implicitDefEqProofs (maxSteps:=1000000) only [go_sem,g9,ew,e2,take_all,take_marks,StoreV.enc]
   repeat refine ⟨sc,?_⟩
   try exact sf
   try rfl
  ·have e2:s.end t r=(⟨s.log r,s.T,s.Gen,s.Place⟩,false):=by rw [StoreV.end,hd,g4,g9]; rfl
   try simp -implicitDefEqProofs (maxSteps:=1000000) only [go_sem,g9,e2,take_all,take_marks,StoreV.enc]
   repeat refine ⟨sc,?_⟩
   try exact sf
   try rfl
 cases g5:(s.Gen==60000)
 ·have er:s.room=s.lay (s.Gen + 1):=by rw [StoreV.room,g4,StoreV.relay,hk,hd,g5]; rfl
  have g6:decide (s.Gen < 60000)=true:=by simp only [beq_eq_false_iff_ne] at g5; exact decide_eq_true (by omega)
  have ew:IntKind.i64.wrap (s.Gen + 1)=s.Gen + 1:=IntWalk.i64_in _ (by omega)
  rw [er] at q ⊢
  refine G4 g3 g4 g6 ew ?_
  refine C0 (c_s_l13Lay s (s.Gen + 1) hk1.1 hT) ?_
  generalize s.lay (s.Gen + 1)=S at q ⊢
  cases gd:S.D.Down
  rotate_left
  ·have e2:S.end t r=(S,false):=by rw [StoreV.end,gd]; rfl
   try simp -implicitDefEqProofs (maxSteps:=1000000) only [go_sem,x_s_l13Add_1,gd,e2,take_all,take_marks,StoreV.enc]
   repeat refine ⟨sc,?_⟩
   try exact sf
   try rfl
  cases gp:(S.Place==30)
  rotate_left
  ·have e2:S.end t r=(S,false):=by rw [StoreV.end,gd,gp]; rfl
   try simp -implicitDefEqProofs (maxSteps:=1000000) only [go_sem,x_s_l13Add_1,gd,gp,e2,take_all,take_marks,StoreV.enc]
   repeat refine ⟨sc,?_⟩
   try exact sf
   try rfl
  have f2:=write_ok q.1 (secOf S.Gen S.Place) (putRec S.Gen S.Place r)
  have hp:=putRec_len S.Gen S.Place r
  have ew:IntKind.i64.wrap (S.Place + 1)=S.Place + 1:=IntWalk.i64_in _ (by omega)
  have hcl:=(DevV.ok_iff _).1 q.1
  have hcl2:=(DevV.ok_iff _).1 f2
  have t1:=c_s_l10Write S.D (secOf S.Gen S.Place) (putRec S.Gen S.Place r) (by omega) (by omega)
  simp only [DevV.enc,gd] at t1
  simp -implicitDefEqProofs (maxSteps:=1000000) only [x_s_l13Add_1,go_sem,gd,gp]
  repeat refine ⟨sc,?_⟩
  refine C0 (c_s_l13At _ _) ?_
  refine C0 (c_s_PutRec S.Gen S.Place r hr8) ?_
  refine C0 (t1) ?_
  refine .of (c_s_l10Flush _ (by omega) (DevV.ok_idx f2)) ?_
  try simp -implicitDefEqProofs (maxSteps:=1000000) only [go_sem,take_all]
  repeat refine ⟨sc,?_⟩
  try exact sf
  have el:((S.D.write (secOf S.Gen S.Place) (putRec S.Gen S.Place r)).flush)=S.log r:=rfl
  rw [el]
  cases g9:(S.log r).Down
  ·have e2:S.end t r=(⟨S.log r,t,S.Gen,S.Place + 1⟩,true):=by rw [StoreV.end,gd,gp,g9]; rfl
   try simp -implicitDefEqProofs (maxSteps:=1000000) only [go_sem,g9,ew,e2,take_all,take_marks,StoreV.enc]
   repeat refine ⟨sc,?_⟩
   try exact sf
   try rfl
  ·have e2:S.end t r=(⟨S.log r,S.T,S.Gen,S.Place⟩,false):=by rw [StoreV.end,gd,gp,g9]; rfl
   try simp -implicitDefEqProofs (maxSteps:=1000000) only [go_sem,g9,e2,take_all,take_marks,StoreV.enc]
   repeat refine ⟨sc,?_⟩
   try exact sf
   try rfl
 ·have er:s.room=s:=by rw [StoreV.room,g4,StoreV.relay,g5,Bool.not_true,Bool.and_false]; rfl
  have g6:decide (s.Gen < 60000)=false:=by simp only [beq_iff_eq] at g5; exact decide_eq_false (by omega)
  have e2:s.end t r=(s,false):=by rw [StoreV.end,g4,Bool.or_true]; rfl
  rw [er] at q ⊢
  refine G4 g3 hd g4 g6 ?_
  try simp -implicitDefEqProofs (maxSteps:=1000000) only [go_sem,x_s_l13Add_1,hd,g4,e2,take_all,take_marks,StoreV.enc]
  repeat refine ⟨sc,?_⟩
  try exact sf
  try rfl
def x_i_putRec:FnX:=⟨46,[.cell 6 (some 13),.tmp 7],
  .q [.v 3 0,.op 6 (.alloc [.i 0,.e,.i 0,.nils 1,.i 0,.nils 1,.i 0,.F,.e,.i 0,.i 0,.i 0,.i 0]),.i 7 0]
 (.q [.f 11 3 0,.f 12 11 4,.f 13 12 1,.l 14 13,.m 15 1,.f 16 3 9,.l 17 16,.m 18 2,.c 19 93 [14,15,17,18],.m 10 19,.e 20 10 0,.e 21 10 1,.op 8 (.alloc [.e,.i 0,.nils 1,.i 0,.nils 1,.i 0,.F]),.s 100001 7 8 20,.m 9 21]
 (.seq (.q [.m 22 9,.B 23 .eql 22 0,.m 24 23,.y 24 (.f 25 3 0),.y 24 (.f 26 25 4),.y 24 (.L 27 3 26),.y 24 (.m 28 1),.y 24 (.c 29 91 [27,28]),.y 24 (.B 30 .lss 29 0),.a 31 24 30,.m 32 31,.y 32 (.f 33 3 0),.y 32 (.f 34 33 4),.y 32 (.f 35 34 0),.y 32 (.l 36 35),.y 32 (.n 37 36),.y 32 (.B 38 .eql 37 8),.a 39 32 38]
 (.c 39 (.reg [.i 9 5])))
 (.seq (.q [.m 40 9,.B 41 .neq 40 0]
 (.c 41 (.q [.op 42 (.build [.i 0,.e,.i 0,.nils 1,.i 0,.nils 1,.i 0,.F,.e,.i 0,.i 0,.i 0,.i 0] [(0,1,(.i 4))]),.m 43 9,.s 100002 13 6 42,.m 7 43]
 .ret)))
 (.q [.L 44 7 8,.op 45 (.build [.i 0,.e,.i 0,.nils 1,.i 0,.nils 1,.i 0,.F,.e,.i 0,.i 0,.i 0,.i 0] [(0,1,(.i 1)),(1,7,(.t 44))]),.s 100003 13 6 45,.i 7 0]
 .ret))))⟩
theorem r_i_putRec {Te:TE} (c_i_RowOf:C_i_RowOf Te) (c_i_RowAt:C_i_RowAt Te):C_i_putRec (RF Te x_i_putRec):=by
 intro n key s hn hk hs
 refine X0 x_i_putRec.eq_1 ?_
 refine C0 (c_i_RowOf n.S.T.Phase key n.Cs s hk hs) ?_
 cases g1:((rowOf n.S.T.Phase key n.Cs s).2==0)
 ·have e:n.putCode key s=(rowOf n.S.T.Phase key n.Cs s).2:=by rw [NodeV.putCode,g1]; rfl
  have g2:((rowOf n.S.T.Phase key n.Cs s).2 != 0)=true:=by rw [bne_eq,g1]; rfl
  try simp -implicitDefEqProofs (maxSteps:=1000000) only [go_sem,g1,g2,e,putRecV,take_rows]
  repeat refine ⟨sc,?_⟩
  try exact sf
  try rfl
 ·have g0:(rowOf n.S.T.Phase key n.Cs s).2=0:=eq_of_beq g1
  refine G1 g1 ?_
  refine C0 (c_i_RowAt n.S.T key hn) ?_
  cases g2:decide (rowAt n.S.T.Rows key < 0)
  ·have e:n.putCode key s=0:=by rw [NodeV.putCode,g1,g2]; exact g0
   try simp -implicitDefEqProofs (maxSteps:=1000000) only [go_sem,g0,g2,e,putRecV,recRowBy,take_rows]
   repeat refine ⟨sc,?_⟩
   try exact sf
   try rfl
  ·cases g3:((n.S.T.Rows.length:Int)==8)
   ·have e:n.putCode key s=0:=by rw [NodeV.putCode,g1,g2,g3]; exact g0
    try simp -implicitDefEqProofs (maxSteps:=1000000) only [go_sem,g0,g2,g3,e,putRecV,recRowBy,take_rows]
    repeat refine ⟨sc,?_⟩
    try exact sf
    try rfl
   ·have e:n.putCode key s=5:=by rw [NodeV.putCode,g1,g2,g3]; rfl
    try simp -implicitDefEqProofs (maxSteps:=1000000) only [go_sem,g2,g3,e,putRecV,recRowBy,take_rows]
    repeat refine ⟨sc,?_⟩
    try exact sf
    try rfl
def x_i_NodePut:FnX:=⟨54,[.cell 10 (some 10),.tmp 11,.tmp 12],
  .q [.v 5 0,.op 10 (.alloc [.nils 1,.nils 2,.i 0,.F,.nils 7,.i 0,.nils 3,.i 0,.i 0,.i 0]),.i 11 0,.F 12]
 (.seq (.q [.L 16 10 5,.c 17 33 [16],.N 18 17,.m 19 18,.z 19 (.m 20 1),.z 19 (.m 21 2),.z 19 (.c 22 47 [20,21]),.z 19 (.N 23 22),.r 24 19 23]
 (.c 24 (.q [.L 25 10 5,.c 26 35 [25],.s 100001 10 10 26,.i 11 1,.F 12]
 .ret)))
 (.q [.L 28 10 5,.m 29 1,.m 30 2,.c 31 48 [28,29,30],.m 27 31,.e 32 27 0,.e 33 27 1,.m 13 32,.m 14 33]
 (.seq (.q [.m 34 14]
 (.c 34 (.q [.L 35 10 5,.c 36 35 [35],.m 37 13,.s 100002 10 10 36,.m 11 37,.F 12]
 .ret)))
 (.q [.L 39 10 5,.m 40 3,.m 41 4,.c 42 52 [39,40,41],.m 38 42,.e 43 38 0,.e 44 38 1,.op 15 (.alloc [.i 0,.e,.i 0,.nils 1,.i 0,.nils 1,.i 0,.F,.e,.i 0,.i 0,.i 0,.i 0]),.s 100003 13 15 43,.m 13 44]
 (.q [.L 45 10 5,.m 46 1,.m 47 2,.L 48 13 15,.m 49 13,.c 50 50 [45,46,47,48,49],.e 51 50 0,.e 52 50 1,.e 53 50 2,.s 100004 10 10 51,.m 11 52,.m 12 53]
 .ret)))))⟩
theorem r_i_NodePut {Te:TE} (c_i_isUp:C_i_isUp Te) (c_i_mayAsk:C_i_mayAsk Te) (c_i_copyNode:C_i_copyNode Te) (c_i_askedBefore:C_i_askedBefore Te) (c_i_putRec:C_i_putRec Te) (c_i_change:C_i_change Te):C_i_NodePut (RF Te x_i_NodePut):=by
 intro n who seq key s hn hk hs
 have hL:=hn.len (by decide)
 refine X0 x_i_NodePut.eq_1 ?_
 refine C0 (c_i_isUp n (hn.mono (by decide))) ?_
 cases g1:n.up
 ·have e:n.putIn who seq key s=(n,1,false):=by rw [NodeV.putIn,old_no (by rw [g1]; rfl)]; rfl
  refine G0 ?_
  exact D1 (c_i_copyNode n hL) e
 refine G0 ?_
 refine C0 (c_i_mayAsk _ _) ?_
 cases g2:(win who 1 9&&win seq 1 65535)
 ·have e:n.putIn who seq key s=(n,1,false):=by rw [NodeV.putIn,old_no (by rw [g1,g2]; rfl)]; rfl
  refine G1 g2 ?_
  exact D1 (c_i_copyNode n hL) e
 have eo:=old_yes g1 g2
 refine G1 g2 ?_
 refine .of (c_i_askedBefore n _ _ (by have:=hn.2.2; omega)) ?_
 try simp -implicitDefEqProofs (maxSteps:=1000000) only [go_sem]
 repeat refine ⟨sc,?_⟩
 try exact sf
 rw [← eo]
 cases g3:(n.old who seq).2
 rotate_left
 ·have e:n.putIn who seq key s=(n,(n.old who seq).1,false):=by rw [NodeV.putIn,g3]; rfl
  refine G1 g3 ?_
  exact D1 (c_i_copyNode n hL) e
 have e:n.putIn who seq key s=n.changed ((putRecV n key s).by who seq (n.putCode key s)):=by rw [NodeV.putIn,g3,putRec_by]; rfl
 refine G1 g3 ?_
 refine C0 (c_i_putRec n key s (by have:=hn.2.1.1; omega) hk hs) ?_
 exact D1 (c_i_change n who seq (putRecV n key s) (n.putCode key s) hn (putRec_in hk)) e
def x_s_l15End:FnX:=⟨29,[.cell 4 (some 10),.tmp 5,.tmp 6],
  .q [.v 2 0,.v 3 1,.op 4 (.alloc [.nils 1,.nils 2,.i 0,.F,.nils 7,.i 0,.nils 3,.i 0,.i 0,.i 0]),.i 5 0,.F 6]
 (.q [.L 9 10 2,.c 10 27 [9],.op 7 (.alloc [.nils 1,.nils 2,.i 0,.F,.nils 7,.i 0,.nils 3,.i 0,.i 0,.i 0]),.s 100001 10 7 10]
 (.q [.f 11 3 12,.l 12 11,.m 8 12]
 (.seq (.q [.m 13 8,.B 14 .neq 13 0]
 (.c 14 (.reg [.f 15 3 10,.l 16 15,.f 17 3 11,.l 18 17,.f 19 3 12,.l 20 19,.op 21 (.build [.i 0,.e,.i 0,.nils 1,.i 0,.nils 1,.i 0,.F,.e,.i 0,.i 0,.i 0,.i 0] [(0,1,(.i 4)),(10,1,(.t 16)),(11,1,(.t 18)),(12,1,(.t 20))]),.s 100002 13 3 21])))
 (.seq (.q [.f 22 7 0,.L 23 13 3,.op 24 (.call 31 [11,0] [(.t 22),(.t 23)]),.N 25 24]
 (.c 25 (.q [.L 26 10 7,.s 100003 10 4 26,.i 5 5,.F 6]
 .ret)))
 (.q [.L 27 10 7,.m 28 8,.s 100004 10 4 27,.m 5 28,.T 6]
 .ret)))))⟩
theorem r_s_l15End {Te:TE} (c_s_l15Copy:C_s_l15Copy Te) (c_s_l13Add:C_s_l13Add Te):C_s_l15End (RF Te x_s_l15End):=by
 intro n r hu hn hr
 have hL:=hn.len (by decide)
 obtain ⟨k1,k2,_⟩:=up_ok hu
 refine X0 x_s_l15End.eq_1 ?_
 refine C0 (c_s_l15Copy n hL) ?_
 cases g:(r.Code != 0)
 ·have e1:=told_self g
  refine G1 g ?_
  refine C0 (c_s_l13Add n.S r k1 k2 hn.2 hr) ?_
  cases g2:(n.S.add r).2
  ·try simp -implicitDefEqProofs (maxSteps:=1000000) only [go_sem,g2,e1,NodeV.changed,NodeV.added,NodeV.enc,take_all,take_marks]
   repeat refine ⟨sc,?_⟩
   try exact sf
   try rfl
  ·try simp -implicitDefEqProofs (maxSteps:=1000000) only [go_sem,g2,e1,NodeV.changed,NodeV.added,NodeV.enc,take_all,take_marks]
   repeat refine ⟨sc,?_⟩
   try exact sf
   try rfl
 ·have e1:=told_who g
  have ec:r.told.Code=r.Code:=by rw [e1]; rfl
  refine G1 g ?_
  refine C0 (c_s_l13Add n.S (recWho r.Who r.Seq r.Code) k1 k2 hn.2 (recWho_in _ _ _ _)) ?_
  cases g2:(n.S.add (recWho r.Who r.Seq r.Code)).2
  ·try simp -implicitDefEqProofs (maxSteps:=1000000) only [go_sem,g2,e1,NodeV.changed,NodeV.added,NodeV.enc,take_all,take_marks]
   repeat refine ⟨sc,?_⟩
   try exact sf
   try rfl
  ·try simp -implicitDefEqProofs (maxSteps:=1000000) only [go_sem,g2,e1,NodeV.changed,NodeV.added,NodeV.enc,take_all,take_marks]
   repeat refine ⟨sc,?_⟩
   try exact sf
   try rfl
def x_i_copyDev:FnX:=⟨50,[.cell 2 (some 4)],
  .q [.v 1 0,.op 2 (.alloc [.nils 1,.nils 2,.i 0,.F])]
 (.q [.f 8 1 2,.l 9 8,.f 10 1 3,.l 11 10,.op 12 (.build [.nils 1,.nils 2,.i 0,.F] [(2,1,(.t 9)),(3,1,(.t 11))]),.op 3 (.alloc [.nils 1,.nils 2,.i 0,.F]),.s 100001 4 3 12]
 (.seq (.q [.f 13 1 0,.l 14 13,.n 15 14,.i 16 0]
 (.up 3 1 300001 (.up 3 0 300000 (.block 0 (.loop [1,2,3,14,15,16] (.q [.b 17 .lss 16 15]
 (.seq (.cond 17 .skip (.exit 0))
 (.seq (.block 1 (.q [.x 18 1 14 16,.l 19 18,.m 5 19]
 (.draw [.f 20 3 0,.l 21 20,.m 22 5,.op 23 (.bslice 1 [(.t 22)]),.c 24 37 [23],.op 25 (.bslice 1 [(.t 24)]),.op 26 (.app 1 24 (.t 21) (.t 25)),.f 27 3 0,.s 100002 1 27 26] [[],[0],[],[2],[3],[4],[1,5,4],[0,1,2,3,4,5,6],[7,6,6,0,1,2,3,4,5,6]])))
 (.reg [.B 28 .add 16 1,.m 16 28])))))))))
 (.norm [1,2,3] (.seq (.q [.f 29 1 1,.l 30 29,.n 31 30,.i 32 0]
 (.block 2 (.loop [2,3,30,31,32] (.q [.b 33 .lss 32 31]
 (.seq (.cond 33 .skip (.exit 2))
 (.seq (.block 3 (.q [.x 34 2 30 32,.L 35 2 34,.op 7 (.alloc [.i 0,.nils 1]),.s 100003 2 7 35]
 (.draw [.f 36 3 1,.l 37 36,.f 38 7 0,.l 39 38,.f 40 7 1,.l 41 40,.op 42 (.bslice 1 [(.t 41)]),.c 43 37 [42],.op 44 (.build [.i 0,.nils 1] [(0,1,(.t 39)),(1,1,(.t 43))]),.op 45 (.bslice 2 [(.t 44)]),.op 46 (.app 2 32 (.t 37) (.t 45)),.f 47 3 1,.s 100004 1 47 46] [[],[0],[],[2],[],[4],[5],[6],[3,7],[8],[1,9,7],[0,1,2,3,4,5,6,7,8,9,10],[11,10,10,0,1,2,3,4,5,6,7,8,9,10]])))
 (.reg [.B 48 .add 32 1,.m 32 48])))))))
 (.norm [2,3] (.q [.L 49 4 3,.s 100005 4 2 49]
 .ret))))))⟩
theorem r_i_copyDev {Te:TE} (c_i_joined:C_i_joined Te):C_i_copyDev (RF Te x_i_copyDev):=by
 intro d h
 obtain ⟨⟨hS,hSl⟩,hC,hCl⟩:=h
 refine X0 x_i_copyDev.eq_1 ?_
 refine loop_of (σ:=Nat×List (List UInt8)) (fun x=>⟨[(1,.bp 1 0),(2,.bp 2 0),(3,.bp 3 0),(14,.one (.ro 1 (d.Secs.map (secR false)))),(15,.one (.pv (.int .i64 d.Secs.length))),(16,.one (.pv (.int .i64 x.1)))],[(1,[.ro 1 (d.Secs.map (secR false)),.ro 2 (d.Cache.map (WrV.enc false)),.pv (.int .i64 d.Fuse),.pv (.bool d.Down)]),(2,[.nils 1,.nils 2,.pv (.int .i64 0),.pv (.bool false)]),(3,[.rf 51 0 [] 1 0 x.2.length,.rf 52 0 [] 2 0 0,.pv (.int .i64 d.Fuse),.pv (.bool d.Down)])],[(0,d.enc false),(51,[slT true 1 (secR true) x.2]),(52,[slT true 2 (WrV.enc true) []])]⟩) (fun x=>x.1≤d.Secs.length∧x.2=d.Secs.take x.1) (fun x=>d.Secs.length - x.1) (0,[]) ?_ ⟨Nat.zero_le _,rfl⟩ ?_
 ·simp -implicitDefEqProofs (maxSteps:=1000000) only [go_sem]
  try rfl
 ·rintro ⟨i,l⟩ ⟨hi,he⟩
  simp only at hi he
  have hl:l.length=i:=by rw [he,List.length_take]; omega
  cases q:decide ((i:Int) < (d.Secs.length:Int))
  ·have k0:i=d.Secs.length:=by simp only [decide_eq_false_iff_not] at q; omega
   rw [k0,List.take_length] at he
   subst he
   refine G1 q ?_
   refine loop_of (σ:=Nat×List WrV) (fun x=>⟨[(2,.bp 2 0),(3,.bp 3 0),(30,.one (.ro 2 (d.Cache.map (WrV.enc false)))),(31,.one (.pv (.int .i64 d.Cache.length))),(32,.one (.pv (.int .i64 x.1)))],[(2,[.nils 1,.nils 2,.pv (.int .i64 0),.pv (.bool false)]),(3,[.rf 51 0 [] 1 0 d.Secs.length,.rf 52 0 [] 2 0 x.2.length,.pv (.int .i64 d.Fuse),.pv (.bool d.Down)])],[(0,d.enc false),(51,[slT true 1 (secR true) d.Secs]),(52,[slT true 2 (WrV.enc true) x.2])]⟩) (fun x=>x.1≤d.Cache.length∧x.2=d.Cache.take x.1) (fun x=>d.Cache.length - x.1) (0,[]) ?_ ⟨Nat.zero_le _,rfl⟩ ?_
   ·simp -implicitDefEqProofs (maxSteps:=1000000) only [go_sem]
    try rfl
   ·rintro ⟨j,m⟩ ⟨hj,hm⟩
    simp only at hj hm
    have hml:m.length=j:=by rw [hm,List.length_take]; omega
    cases q2:decide ((j:Int) < (d.Cache.length:Int))
    ·have k2:j=d.Cache.length:=by simp only [decide_eq_false_iff_not] at q2; omega
     rw [k2,List.take_length] at hm
     subst hm
     exact F1 q2
    ·have k2:j < d.Cache.length:=by simp only [decide_eq_true_eq] at q2; omega
     have hb:d.Cache[j].B.length≤2 ^ 21:=hCl _ (List.getElem_mem k2)
     have ea:=app1W m d.Cache[j]
     refine G2 q2 (List.getElem?_eq_getElem k2) ?_
     refine .of (c_i_joined [d.Cache[j].B] (by rw [flat1]; omega) (by show 1≤2 ^ 31; decide)) ?_
     try simp -implicitDefEqProofs (maxSteps:=1000000) only [go_sem,flat1,take_all,ea]
     repeat refine ⟨sc,?_⟩
     try exact sf
     refine ⟨(j + 1,m++[d.Cache[j]]),?_,⟨k2,by rw [hm,List.take_succ_eq_append_getElem k2]⟩,by simp only; omega⟩
     rw [IntWalk.i64_in _ (by omega)]
     simp only [List.length_append]
     rfl
  ·have k1:i < d.Secs.length:=by simp only [decide_eq_true_eq] at q; omega
   have hb:d.Secs[i].length≤2 ^ 21:=hSl _ (List.getElem_mem k1)
   have ea:=app1S l d.Secs[i]
   refine G2 q (List.getElem?_eq_getElem k1) ?_
   refine .of (c_i_joined [d.Secs[i]] (by rw [flat1]; omega) (by show 1≤2 ^ 31; decide)) ?_
   try simp -implicitDefEqProofs (maxSteps:=1000000) only [go_sem,flat1,take_all,ea]
   repeat refine ⟨sc,?_⟩
   try exact sf
   refine ⟨(i + 1,l++[d.Secs[i]]),?_,⟨k1,by rw [he,List.take_succ_eq_append_getElem k1]⟩,by simp only; omega⟩
   rw [IntWalk.i64_in _ (by omega)]
   simp only [List.length_append]
   rfl
def x_i_burn:FnX:=⟨18,[.cell 2 (some 4),.tmp 3],
  .q [.v 1 0,.op 2 (.alloc [.nils 1,.nils 2,.i 0,.F]),.F 3]
 (.seq (.q [.f 4 1 2,.l 5 4,.B 6 .eql 5 0]
 (.c 6 (.q [.f 7 1 3,⟨none,none,100001,.store 1 (.t 7) .T⟩,.f 8 1 2,⟨none,none,100002,.store 1 (.t 8) (.i (-1))⟩]
 (.q [.L 9 4 1,.s 100003 4 2 9,.F 3]
 .ret))))
 (.seq (.q [.f 10 1 2,.l 11 10,.B 12 .gtr 11 0]
 (.c 12 (.reg [.f 13 1 2,.l 14 13,.B 15 .sub 14 1,.f 16 1 2,.s 100004 1 16 15])))
 (.q [.L 17 4 1,.s 100005 4 2 17,.T 3]
 .ret)))⟩
theorem r_i_burn {Te:TE}:C_i_burn (RF Te x_i_burn):=by
 intro d
 refine run0 ?_
 cases g:(d.Fuse==0)
 ·have g1:¬ d.Fuse=0:=by simpa using g
  cases g2:decide (d.Fuse > 0)
  ·have e:d.burn=d:=by rw [DevV.burn,if_neg g1,if_neg (by simpa using g2)]
   simp -implicitDefEqProofs (maxSteps:=1000000) only [x_i_burn,go_sem,g,g2,e,take_all]
   repeat refine ⟨sc,?_⟩
   try exact sf
   try rfl
  ·have e:d.burn=⟨d.Secs,d.Cache,IntKind.i64.wrap (d.Fuse - 1),d.Down⟩:=by rw [DevV.burn,if_neg g1,if_pos (by simpa using g2)]
   simp -implicitDefEqProofs (maxSteps:=1000000) only [x_i_burn,go_sem,g,g2,e,take_all]
   repeat refine ⟨sc,?_⟩
   try exact sf
   try rfl
 ·have g1:d.Fuse=0:=by simpa using g
  have e:d.burn=⟨d.Secs,d.Cache,-1,true⟩:=by rw [DevV.burn,if_pos g1]
  simp -implicitDefEqProofs (maxSteps:=1000000) only [x_i_burn,go_sem,g,e,take_all]
  repeat refine ⟨sc,?_⟩
  try exact sf
  try rfl
def x_s_l10Op:FnX:=⟨27,[.tmp 2],
  .q [.F 2]
 (.seq (.q [.m 3 0,.op 4 (.nilc (.t 3)),.f 5 4 2,.l 6 5,.B 7 .eql 6 0]
 (.c 7 (.q [.m 8 0,.op 9 (.nilc (.t 8)),.f 10 9 3,⟨none,none,100001,.store 1 (.t 10) .T⟩]
 (.q [.m 11 0,.op 12 (.nilc (.t 11)),.f 13 12 2,⟨none,none,100002,.store 1 (.t 13) (.i (-1))⟩]
 (.q [.F 2]
 .ret)))))
 (.seq (.q [.m 14 0,.op 15 (.nilc (.t 14)),.f 16 15 2,.l 17 16,.B 18 .gtr 17 0]
 (.c 18 (.reg [.m 19 0,.m 20 0,.op 21 (.nilc (.t 20)),.f 22 21 2,.l 23 22,.B 24 .sub 23 1,.op 25 (.nilc (.t 19)),.f 26 25 2,.s 100003 1 26 24])))
 (.q [.T 2]
 .ret)))⟩
theorem r_s_l10Op {Te:TE}:C_s_l10Op (RF Te x_s_l10Op):=by
 intro d
 refine run0 ?_
 cases g:(d.Fuse==0)
 ·have g1:¬ d.Fuse=0:=by simpa using g
  cases g2:decide (d.Fuse > 0)
  ·have e:d.burn=d:=by rw [DevV.burn,if_neg g1,if_neg (by simpa using g2)]
   simp -implicitDefEqProofs (maxSteps:=1000000) only [x_s_l10Op,go_sem,g,g2,e,take_all]
   repeat refine ⟨sc,?_⟩
   try exact sf
   try rfl
  ·have e:d.burn=⟨d.Secs,d.Cache,IntKind.i64.wrap (d.Fuse - 1),d.Down⟩:=by rw [DevV.burn,if_neg g1,if_pos (by simpa using g2)]
   simp -implicitDefEqProofs (maxSteps:=1000000) only [x_s_l10Op,go_sem,g,g2,e,take_all]
   repeat refine ⟨sc,?_⟩
   try exact sf
   try rfl
 ·have g1:d.Fuse=0:=by simpa using g
  have e:d.burn=⟨d.Secs,d.Cache,-1,true⟩:=by rw [DevV.burn,if_pos g1]
  simp -implicitDefEqProofs (maxSteps:=1000000) only [x_s_l10Op,go_sem,g,e,take_all]
  repeat refine ⟨sc,?_⟩
  try exact sf
  try rfl
def x_i_sectorOf:FnX:=⟨11,[.tmp 4],
  .q [.i 4 0]
 (.q [.m 5 0,.B 6 .rem 5 2,.op 7 (.bin .mul (.i 30) (.t 6)),.op 8 (.bin .add (.i 2) (.t 7)),.m 9 1,.b 10 .add 8 9,.m 4 10]
 .ret)⟩
theorem r_i_sectorOf {Te:TE}:C_i_sectorOf (RF Te x_i_sectorOf):=by
 intro gen place
 refine X0 x_i_sectorOf.eq_1 ?_
 try rfl
def x_s_l13At:FnX:=⟨11,[.tmp 4],
  .q [.i 4 0]
 (.q [.m 5 0,.B 6 .rem 5 2,.op 7 (.bin .mul (.i 30) (.t 6)),.op 8 (.bin .add (.i 2) (.t 7)),.m 9 1,.b 10 .add 8 9,.m 4 10]
 .ret)⟩
theorem r_s_l13At {Te:TE}:C_s_l13At (RF Te x_s_l13At):=by
 intro gen place
 refine X0 x_s_l13At.eq_1 ?_
 try rfl
def x_i_laid:FnX:=⟨38,[.cell 6 (some 4)],
  .q [.v 3 0,.op 6 (.alloc [.nils 1,.nils 2,.i 0,.F])]
 (.seq (.q [.m 9 2,.n 10 9,.i 11 0]
 (.block 0 (.loop [1,2,3,6,9,10,11] (.q [.b 12 .lss 11 10]
 (.seq (.cond 12 .skip (.exit 0))
 (.seq (.block 1 (.q [.m 13 11,.x 14 13 9 11,.L 15 13 14,.op 8 (.alloc [.i 0,.e,.i 0,.nils 1,.i 0,.nils 1,.i 0,.F,.e,.i 0,.i 0,.i 0,.i 0]),.m 7 13,.s 100001 13 8 15]
 (.draw [.L 16 4 3,.m 17 1,.m 18 7,.c 19 140 [17,18],.m 20 1,.m 21 7,.L 22 13 8,.c 23 141 [20,21,22],.c 24 139 [16,19,23],.s 100002 4 3 24] [[],[],[],[1,2],[],[],[],[4,5,6,3],[0,3,7,7],[8,8,0,1,2,3,4,5,6,7,8]])))
 (.reg [.B 25 .add 11 1,.m 11 25])))))))
 (.norm [1,2,3,6] (.q [.L 26 4 3,.c 27 142 [26],.s 100003 4 3 27]
 (.seq (.draw [.L 28 4 3,.m 29 1,.B 30 .rem 29 2,.m 31 1,.m 32 2,.n 33 32,.c 34 225 [31,33],.c 35 139 [28,30,34],.s 100004 4 3 35] [[],[],[1],[],[],[4],[3,5],[0,2,6,6],[7,7,0,1,2,3,4,5,6,7]])
 (.q [.L 36 4 3,.c 37 142 [36],.s 100005 4 6 37]
 .ret)))))⟩
theorem r_i_laid {Te:TE} (c_i_sectorOf:C_i_sectorOf Te) (c_i_PutRec:C_i_PutRec Te) (c_i_WriteSec:C_i_WriteSec Te) (c_i_FlushDev:C_i_FlushDev Te) (c_i_HeadOf:C_i_HeadOf Te):C_i_laid (RF Te x_i_laid):=by
 intro d gen recs hd hr
 have hrl:=hr.1
 refine X0 x_i_laid.eq_1 ?_
 refine loop_of (σ:=Bool×Nat×DevV) (fun x=>cond x.1 (⟨[(1,.one (.pv (.int .i64 gen))),(2,.one (.ro 13 (recs.map (RecV.enc false)))),(3,.bp 3 0),(6,.bp 6 0),(9,.one (.ro 13 (recs.map (RecV.enc false)))),(10,.one (.pv (.int .i64 recs.length))),(11,.one (.pv (.int .i64 x.2.1)))],[(3,[.rf 41 0 [] 1 0 x.2.2.Secs.length,.rf 41 1 [] 2 0 x.2.2.Cache.length,.pv (.int .i64 x.2.2.Fuse),.pv (.bool x.2.2.Down)]),(6,[.nils 1,.nils 2,.pv (.int .i64 0),.pv (.bool false)])],[(0,d.enc false),(1,[iT gen]),(2,[slT false 13 (RecV.enc false) recs]),(41,x.2.2.enc true)]⟩) (⟨[(1,.one (.pv (.int .i64 gen))),(2,.one (.ro 13 (recs.map (RecV.enc false)))),(3,.bp 3 0),(6,.bp 6 0),(9,.one (.ro 13 (recs.map (RecV.enc false)))),(10,.one (.pv (.int .i64 recs.length))),(11,.one (.pv (.int .i64 x.2.1)))],[(3,[.ro 1 (x.2.2.Secs.map (secR false)),.ro 2 (x.2.2.Cache.map (WrV.enc false)),.pv (.int .i64 x.2.2.Fuse),.pv (.bool x.2.2.Down)]),(6,[.nils 1,.nils 2,.pv (.int .i64 0),.pv (.bool false)])],[(0,d.enc false),(1,[iT gen]),(2,[slT false 13 (RecV.enc false) recs])]⟩)) (fun x=>x.2.1≤recs.length∧x.2.2=layN gen recs d x.2.1∧x.2.2.ok=true∧(x.1=false→x.2.1=0)) (fun x=>recs.length - x.2.1) (false,0,d) ?_ ⟨Nat.zero_le _,rfl,hd,fun _=>rfl⟩ ?_
 ·simp -implicitDefEqProofs (maxSteps:=1000000) only [go_sem]
  try rfl
 ·rintro ⟨b,i,D⟩ ⟨hi,hD,hk,hb⟩
  simp only at hi hD hk hb
  cases b
  ·cases q:decide ((i:Int) < (recs.length:Int))
   ·skip
    have k0:i=recs.length:=by simp only [decide_eq_false_iff_not] at q; omega
    have e:((D.flush).write (gen.tmod 2) (headOf gen recs.length)).flush=layDev gen recs d:=by rw [hD,k0]; rfl
    have hh:=headOf_len gen recs.length
    have f1:=flush_ok hk
    have f2:=write_ok f1 (gen.tmod 2) (headOf gen recs.length)
    refine G1 q ?_
    refine C0 (c_i_FlushDev D hk) ?_
    refine C0 (c_i_HeadOf _ _) ?_
    refine .of (c_i_WriteSec D.flush _ _ f1 (by omega)) ?_
    try simp -implicitDefEqProofs (maxSteps:=1000000) only [go_sem,take_all]
    repeat refine ⟨sc,?_⟩
    try exact sf
    refine .of (c_i_FlushDev _ f2) ?_
    try simp -implicitDefEqProofs (maxSteps:=1000000) only [go_sem,take_all,e,DevV.enc]
    repeat refine ⟨sc,?_⟩
    try exact sf
    try rfl
   ·skip
    have k1:i < recs.length:=by simp only [decide_eq_true_eq] at q; omega
    have hp:=putRec_len gen i recs[i]
    have hin:=hr.2 _ (List.getElem_mem k1)
    have es:=layN_step gen d k1
    rw [← hD] at es
    refine G2 q (List.getElem?_eq_getElem k1) ?_
    refine C0 (c_i_sectorOf _ _) ?_
    refine C0 (c_i_PutRec _ _ recs[i] hin) ?_
    refine .of (c_i_WriteSec D _ _ hk (by omega)) ?_
    try simp -implicitDefEqProofs (maxSteps:=1000000) only [go_sem,take_all]
    repeat refine ⟨sc,?_⟩
    try exact sf
    refine ⟨(true,i + 1,D.write (secOf gen i) (putRec gen i recs[i])),?_,⟨k1,es,write_ok hk _ _,fun h=>by cases h⟩,by simp only; omega⟩
    rw [IntWalk.i64_in _ (by omega)]
    rfl
  ·cases q:decide ((i:Int) < (recs.length:Int))
   ·skip
    have k0:i=recs.length:=by simp only [decide_eq_false_iff_not] at q; omega
    have e:((D.flush).write (gen.tmod 2) (headOf gen recs.length)).flush=layDev gen recs d:=by rw [hD,k0]; rfl
    have hh:=headOf_len gen recs.length
    have f1:=flush_ok hk
    have f2:=write_ok f1 (gen.tmod 2) (headOf gen recs.length)
    refine G1 q ?_
    refine C0 (c_i_FlushDev D hk) ?_
    refine C0 (c_i_HeadOf _ _) ?_
    refine .of (c_i_WriteSec D.flush _ _ f1 (by omega)) ?_
    try simp -implicitDefEqProofs (maxSteps:=1000000) only [go_sem,take_all]
    repeat refine ⟨sc,?_⟩
    try exact sf
    refine .of (c_i_FlushDev _ f2) ?_
    try simp -implicitDefEqProofs (maxSteps:=1000000) only [go_sem,take_all,e,DevV.enc]
    repeat refine ⟨sc,?_⟩
    try exact sf
    try rfl
   ·skip
    have k1:i < recs.length:=by simp only [decide_eq_true_eq] at q; omega
    have hp:=putRec_len gen i recs[i]
    have hin:=hr.2 _ (List.getElem_mem k1)
    have es:=layN_step gen d k1
    rw [← hD] at es
    refine G2 q (List.getElem?_eq_getElem k1) ?_
    refine C0 (c_i_sectorOf _ _) ?_
    refine C0 (c_i_PutRec _ _ recs[i] hin) ?_
    refine .of (c_i_WriteSec D _ _ hk (by omega)) ?_
    try simp -implicitDefEqProofs (maxSteps:=1000000) only [go_sem,take_all]
    repeat refine ⟨sc,?_⟩
    try exact sf
    refine ⟨(true,i + 1,D.write (secOf gen i) (putRec gen i recs[i])),?_,⟨k1,es,write_ok hk _ _,fun h=>by cases h⟩,by simp only; omega⟩
    rw [IntWalk.i64_in _ (by omega)]
    rfl
def x_i_NextOk:FnX:=⟨27,[.tmp 4],
  .q [.F 4]
 (.seq (.block 0 (.q [.m 6 0,.op 7 (.call 77 [0,0,0] [(.t 6),(.i 0),(.i 4)]),.m 8 7,.y 8 (.m 9 1),.y 8 (.m 10 0),.y 8 (.B 11 .add 10 1),.y 8 (.b 12 .eql 9 11),.a 13 8 12,.m 5 13]
 (.cond 5 (.q [.T 4]
 .ret) (.q [.m 15 0,.op 16 (.call 77 [0,0,0] [(.t 15),(.i 0),(.i 3)]),.m 17 16,.y 17 (.m 18 1),.y 17 (.B 19 .eql 18 6),.a 20 17 19,.m 14 20]
 (.c 14 (.q [.T 4]
 .ret))))))
 (.q [.m 21 0,.B 22 .eql 21 6,.m 23 22,.y 23 (.m 24 1),.y 23 (.B 25 .eql 24 7),.a 26 23 25,.m 4 26]
 .ret))⟩
theorem r_i_NextOk {Te:TE} (c_i_within:C_i_within Te):C_i_NextOk (RF Te x_i_NextOk):=by
 intro a b
 refine run0 ?_
 simp -implicitDefEqProofs (maxSteps:=1000000) only [x_i_NextOk,go_sem,nextOk]
 repeat refine ⟨sc,?_⟩
 try exact sf
 refine C0 (c_i_within _ _ _) ?_
 cases g1:win a 0 4
 ·refine G0 ?_
  refine C0 (c_i_within _ _ _) ?_
  cases g2:win a 0 3
  ·refine G0 ?_
   refine bif_cases (fun h=>?_) (fun h=>?_) <;> simp -implicitDefEqProofs (maxSteps:=1000000) only [h,go_sem]
  ·refine G0 ?_
   refine ⟨fun k=>?_,fun k=>?_⟩
   ·exact F1 k
   ·refine G1 k ?_
    refine bif_cases (fun h=>?_) (fun h=>?_) <;> simp -implicitDefEqProofs (maxSteps:=1000000) only [h,k,go_sem]
 ·refine G0 ?_
  refine ⟨fun j=>?_,fun j=>?_⟩
  ·exact F1 j
  ·refine G1 j ?_
   refine C0 (c_i_within _ _ _) ?_
   cases g2:win a 0 3
   ·refine G0 ?_
    refine bif_cases (fun h=>?_) (fun h=>?_) <;> simp -implicitDefEqProofs (maxSteps:=1000000) only [h,j,go_sem]
   ·refine G0 ?_
    refine ⟨fun k=>?_,fun k=>?_⟩
    ·exact F2 k j
    ·refine G1 k ?_
     refine bif_cases (fun h=>?_) (fun h=>?_) <;> simp -implicitDefEqProofs (maxSteps:=1000000) only [h,k,j,go_sem]
def x_s_NextOk:FnX:=⟨27,[.tmp 4],
  .q [.F 4]
 (.seq (.block 0 (.q [.m 6 0,.op 7 (.call 64 [0,0,0] [(.t 6),(.i 0),(.i 4)]),.m 8 7,.y 8 (.m 9 1),.y 8 (.m 10 0),.y 8 (.B 11 .add 10 1),.y 8 (.b 12 .eql 9 11),.a 13 8 12,.m 5 13]
 (.cond 5 (.q [.T 4]
 .ret) (.q [.m 15 0,.op 16 (.call 64 [0,0,0] [(.t 15),(.i 0),(.i 3)]),.m 17 16,.y 17 (.m 18 1),.y 17 (.B 19 .eql 18 6),.a 20 17 19,.m 14 20]
 (.c 14 (.q [.T 4]
 .ret))))))
 (.q [.m 21 0,.B 22 .eql 21 6,.m 23 22,.y 23 (.m 24 1),.y 23 (.B 25 .eql 24 7),.a 26 23 25,.m 4 26]
 .ret))⟩
theorem r_s_NextOk {Te:TE} (c_s_l1In:C_s_l1In Te):C_s_NextOk (RF Te x_s_NextOk):=by
 intro a b
 refine run0 ?_
 simp -implicitDefEqProofs (maxSteps:=1000000) only [x_s_NextOk,go_sem,nextOk]
 repeat refine ⟨sc,?_⟩
 try exact sf
 refine C0 (c_s_l1In _ _ _) ?_
 cases g1:win a 0 4
 ·refine G0 ?_
  refine C0 (c_s_l1In _ _ _) ?_
  cases g2:win a 0 3
  ·refine G0 ?_
   refine bif_cases (fun h=>?_) (fun h=>?_) <;> simp -implicitDefEqProofs (maxSteps:=1000000) only [h,go_sem]
  ·refine G0 ?_
   refine ⟨fun k=>?_,fun k=>?_⟩
   ·exact F1 k
   ·refine G1 k ?_
    refine bif_cases (fun h=>?_) (fun h=>?_) <;> simp -implicitDefEqProofs (maxSteps:=1000000) only [h,k,go_sem]
 ·refine G0 ?_
  refine ⟨fun j=>?_,fun j=>?_⟩
  ·exact F1 j
  ·refine G1 j ?_
   refine C0 (c_s_l1In _ _ _) ?_
   cases g2:win a 0 3
   ·refine G0 ?_
    refine bif_cases (fun h=>?_) (fun h=>?_) <;> simp -implicitDefEqProofs (maxSteps:=1000000) only [h,j,go_sem]
   ·refine G0 ?_
    refine ⟨fun k=>?_,fun k=>?_⟩
    ·exact F2 k j
    ·refine G1 k ?_
     refine bif_cases (fun h=>?_) (fun h=>?_) <;> simp -implicitDefEqProofs (maxSteps:=1000000) only [h,k,j,go_sem]
def x_s_DevOk:FnX:=⟨63,[.tmp 2],
  .q [.v 1 0,.F 2]
 (.seq (.q [.i 3 0]
 (.block 0 (.loop [1,3] (.seq (.q [.m 5 3,.f 6 1 0,.l 7 6,.n 8 7,.b 9 .lss 5 8]
 (.cond 9 .skip (.exit 0)))
 (.seq (.block 1 (.q [.f 12 1 0,.l 13 12,.m 14 3,.x 15 1 13 14,.l 16 15,.n 17 16,.B 18 .gtr 17 120]
 (.c 18 (.q [.F 2]
 .ret))))
 (.reg [.m 10 3,.B 11 .add 10 1,.m 3 11]))))))
 (.norm [1] (.seq (.q [.i 4 0]
 (.block 2 (.loop [1,4] (.seq (.q [.m 19 4,.f 20 1 1,.l 21 20,.n 22 21,.b 23 .lss 19 22]
 (.cond 23 .skip (.exit 2)))
 (.seq (.block 3 (.seq (.draw [.f 26 1 1,.l 27 26,.m 28 4,.x 29 2 27 28,.f 30 29 0,.l 31 30,.f 32 1 0,.l 33 32,.n 34 33,.B 35 .sub 34 1,.op 36 (.call 64 [0,0,0] [(.t 31),(.i 0),(.t 35)]),.N 37 36,.m 38 37,.z 38 (.f 39 1 1),.z 38 (.l 40 39),.z 38 (.m 41 4),.z 38 (.x 42 2 40 41),.z 38 (.f 43 42 1),.z 38 (.l 44 43),.z 38 (.n 45 44),.z 38 (.B 46 .gtr 45 120),.r 47 38 46] [[],[0],[],[1,2],[3],[4],[],[6],[7],[8],[5,9],[10],[11,10],[12],[13,12],[12],[14,15,12],[16,12],[17,12],[18,12],[19,12],[12,20]])
 (.c 47 (.q [.F 2]
 .ret))))
 (.reg [.m 24 4,.B 25 .add 24 1,.m 4 25]))))))
 (.norm [1] (.q [.f 48 1 0,.l 49 48,.n 50 49,.op 51 (.call 64 [0,0,0] [(.t 50),(.i 1),(.i 64)]),.m 52 51,.y 52 (.f 53 1 1),.y 52 (.l 54 53),.y 52 (.n 55 54),.y 52 (.B 56 .leq 55 40),.a 57 52 56,.m 58 57,.y 58 (.f 59 1 2),.y 58 (.l 60 59),.y 58 (.op 61 (.call 64 [0,0,0] [(.t 60),(.i (-1)),(.i 1000)])),.a 62 58 61,.m 2 62]
 .ret)))))⟩
theorem r_s_DevOk {Te:TE} (c_s_l1In:C_s_l1In Te):C_s_DevOk (RF Te x_s_DevOk):=by
 intro d h
 obtain ⟨⟨hl,hS⟩,hl2,hC⟩:=h
 have ws:IntKind.i64.wrap ((d.Secs.length:Int) - 1)=(d.Secs.length:Int) - 1:=IntWalk.i64_in _ (by omega)
 refine X0 x_s_DevOk.eq_1 ?_
 refine loop_of (σ:=Nat) (fun i=>⟨[(1,.bp 1 0),(3,.one (.pv (.int .i64 i)))],[(1,[.ro 1 (d.Secs.map (fun y=>[slT false 1 uR y])),.ro 2 (d.Cache.map (WrV.enc false)),.pv (.int .i64 d.Fuse),.pv (.bool d.Down)])],[(0,d.enc false)]⟩) (fun i=>i≤d.Secs.length∧(d.Secs.take i).all (secGood)=true) (fun i=>d.Secs.length - i) 0 ?_ ⟨Nat.zero_le _,rfl⟩ ?_
 ·simp -implicitDefEqProofs (maxSteps:=1000000) only [go_sem]
  try rfl
 ·rintro i ⟨hi,hp⟩
  cases q:decide ((i:Int) < (d.Secs.length:Int))
  ·have eS:=all_end (p:=secGood) (show d.Secs.length≤i by simp only [decide_eq_false_iff_not] at q; omega) hp
   refine G1 q ?_
   refine loop_of (σ:=Nat) (fun i=>⟨[(1,.bp 1 0),(4,.one (.pv (.int .i64 i)))],[(1,[.ro 1 (d.Secs.map (fun y=>[slT false 1 uR y])),.ro 2 (d.Cache.map (WrV.enc false)),.pv (.int .i64 d.Fuse),.pv (.bool d.Down)])],[(0,d.enc false)]⟩) (fun i=>i≤d.Cache.length∧(d.Cache.take i).all (wrGood d.Secs.length)=true) (fun i=>d.Cache.length - i) 0 ?_ ⟨Nat.zero_le _,rfl⟩ ?_
   ·simp -implicitDefEqProofs (maxSteps:=1000000) only [go_sem]
    try rfl
   ·rintro i ⟨hi,hp⟩
    cases q:decide ((i:Int) < (d.Cache.length:Int))
    ·have eC:=all_end (p:=wrGood d.Secs.length) (show d.Cache.length≤i by simp only [decide_eq_false_iff_not] at q; omega) hp
     refine G1 q ?_
     refine C0 (c_s_l1In _ _ _) ?_
     cases g1:win (d.Secs.length:Int) 1 64
     ·have e:d.ok=false:=by simp only [DevV.ok,g1,Bool.false_and]
      exact F1 e
     refine G0 ?_
     cases g2:decide ((d.Cache.length:Int)≤40)
     ·have e:d.ok=false:=by simp only [DevV.ok,g2,Bool.and_false,Bool.false_and]
      exact F2 g2 e
     refine G1 g2 ?_
     have e:d.ok=win d.Fuse (-1) 1000:=by simp only [DevV.ok,g1,g2,eS,eC,Bool.and_true,Bool.true_and]
     exact D1 (c_s_l1In _ _ _) e
    ·have k1:i < d.Cache.length:=by simp only [decide_eq_true_eq] at q; omega
     refine G3 q (List.getElem?_eq_getElem k1) ws ?_
     refine C0 (c_s_l1In _ _ _) ?_
     cases g:win d.Cache[i].N 0 ((d.Secs.length:Int) - 1)
     ·have gg:wrGood d.Secs.length d.Cache[i]=false:=by simp only [wrGood,g,Bool.false_and]
      have e:d.ok=false:=by simp only [DevV.ok,all_not (p:=wrGood d.Secs.length) k1 gg,Bool.and_false]
      exact F1 e
     ·cases g2:decide ((d.Cache[i].B.length:Int) > 120)
      ·refine G2 g2 (List.getElem?_eq_getElem k1) ?_
       exact ⟨i + 1,by rw [IntWalk.i64_in _ (by omega)]; rfl,⟨k1,all_step (p:=wrGood d.Secs.length) k1 hp (by simp only [wrGood,g,g2,Bool.not_false,Bool.and_true])⟩,by omega⟩
      ·have gg:wrGood d.Secs.length d.Cache[i]=false:=by simp only [wrGood,g2,Bool.not_true,Bool.and_false]
       have e:d.ok=false:=by simp only [DevV.ok,all_not (p:=wrGood d.Secs.length) k1 gg,Bool.and_false]
       exact F3 g2 (List.getElem?_eq_getElem k1) e
  ·have k1:i < d.Secs.length:=by simp only [decide_eq_true_eq] at q; omega
   cases g:decide ((d.Secs[i].length:Int) > 120)
   ·refine G3 q (List.getElem?_eq_getElem k1) g ?_
    exact ⟨i + 1,by rw [IntWalk.i64_in _ (by omega)]; rfl,⟨k1,all_step (p:=secGood) k1 hp (by simp only [secGood,g,Bool.not_false])⟩,by omega⟩
   ·have gg:secGood d.Secs[i]=false:=by simp only [secGood,g,Bool.not_true]
    have e:d.ok=false:=by simp only [DevV.ok,all_not (p:=secGood) k1 gg,Bool.and_false,Bool.false_and]
    exact F4 q (List.getElem?_eq_getElem k1) g e
def x_l_markRowS:FnX:=⟨69,[.tmp 4],
  .q [.i 4 0]
 (.seq (.q [.i 5 0]
 (.block 0 (.loop [0,1,5] (.seq (.q [.m 6 5,.m 7 0,.n 8 7,.b 9 .lss 6 8]
 (.cond 9 .skip (.exit 0)))
 (.seq (.block 1 (.q [.m 12 0,.m 13 5,.m 14 1,.c 15 208 [14],.x 16 7 12 13,.f 17 16 0,.s 100001 1 17 15]
 (.q [.m 18 1,.B 19 .add 18 1,.m 1 19]
 (.q [.m 20 0,.m 21 5,.m 22 1,.x 23 7 20 21,.f 24 23 1,.f 25 24 0,.s 100002 1 25 22]
 (.q [.m 26 1,.B 27 .add 26 1,.m 1 27]
 (.q [.m 28 0,.m 29 5,.x 30 7 28 29,.f 31 30 1,.f 32 31 1,.l 33 32,.m 34 1,.op 35 (.io 16 (.t 33) [(.t 34)]),.m 1 35]
 (.q [.m 36 0,.m 37 5,.m 38 1,.x 39 7 36 37,.f 40 39 3,.f 41 40 0,.s 100003 1 41 38]
 (.q [.m 42 1,.B 43 .add 42 1,.m 1 43]
 (.q [.m 44 0,.m 45 5,.x 46 7 44 45,.f 47 46 3,.f 48 47 1,.l 49 48,.m 50 1,.op 51 (.io 16 (.t 49) [(.t 50)]),.m 1 51]
 (.q [.m 52 0,.m 53 5,.m 54 1,.x 55 7 52 53,.f 56 55 5,.s 100004 1 56 54]
 (.q [.m 57 1,.B 58 .add 57 1,.m 1 58]
 (.q [.m 59 0,.m 60 5,.m 61 1,.B 62 .rem 61 3,.B 63 .eql 62 0,.x 64 7 59 60,.f 65 64 6,.s 100005 1 65 63]
 (.reg [.m 66 1,.B 67 .add 66 1,.m 1 67])))))))))))))
 (.reg [.m 10 5,.B 11 .add 10 1,.m 5 11]))))))
 (.norm [1] (.q [.m 68 1,.m 4 68]
 .ret)))⟩
theorem r_l_markRowS {Te:TE} (c_l_markText:C_l_markText Te) (c_l_markByteS:C_l_markByteS Te):C_l_markRowS (RF Te x_l_markRowS):=by
 intro l k hl hk
 refine run0 ?_
 have hl1:=hl.1
 simp -implicitDefEqProofs (maxSteps:=1000000) (disch:=omega) only [x_l_markRowS,go_sem,IntWalk.i64_in]
 refine loop_of (σ:=Nat) (fun i=>⟨[(0,.one (.rf 0 0 [] 7 0 l.length)),(1,.one (.pv (.int .i64 (farL RowV.farE (l.take i) k)))),(5,.one (.pv (.int .i64 i)))],[],[(0,[.sl true 7 () ((markL RowV.markE RowV.farE (l.take i) k).map (RowV.enc true)++(l.drop i).map (RowV.enc true))]),(1,[iT k])]⟩) (fun i=>i≤l.length) (fun i=>l.length - i) 0 ?_ (Nat.zero_le _) ?_
 ·simp -implicitDefEqProofs (maxSteps:=1000000) only [go_sem]; simp [markL,farL]
 ·intro i hi
  simp -implicitDefEqProofs (maxSteps:=1000000) only [go_sem]
  refine ⟨fun h=>?_,fun h=>?_⟩
  ·have hi':i < l.length:=by simp only [decide_eq_true_eq] at h; omega
   have hb:k≤farL RowV.farE (l.take i) k∧farL RowV.farE (l.take i) k≤k + 8796103507968:=by
    have q:=farL_le (n:=2 ^ 21) (k:=k) (c:=4194309) (l:=l.take i) ⟨by rw [List.length_take]; omega,fun y hy=>hl.2 y (List.mem_of_mem_take hy)⟩ (fun y hy k=>RowV.farE_le hy k)
    omega
   have he:=hl.2 _ (List.getElem_mem hi')
   have hset:=markL_set (RowV.enc true) RowV.markE RowV.farE l k hi'
   have hnext:=farL_take RowV.farE l k hi'
   have e0:l[i].Old.B.length≤2 ^ 21:=he.1
   have e1:l[i].New.B.length≤2 ^ 21:=he.2
   generalize farL RowV.farE (l.take i) k=j at hb hset hnext ⊢
   try simp -implicitDefEqProofs (maxSteps:=1000000) (disch:=omega) only [go_sem,storeAp,setCells,List.length_set,List.set_set,markL_len (RowV.enc true) RowV.markE RowV.farE l k hi,List.getD_eq_getElem?_getD,markL_at (RowV.enc true) RowV.markE RowV.farE l k hi',markL_reat (RowV.enc true) RowV.markE RowV.farE l k hi',Option.getD_some,IntWalk.i64_in]
   repeat (first | refine ⟨by decide,?_⟩ | refine ⟨decide_eq_true hi',?_⟩)
   refine .of (c_l_markText _ (by omega)) ?_
   simp -implicitDefEqProofs (maxSteps:=1000000) (disch:=omega) only [go_sem,storeAp,setCells,List.length_set,List.set_set,markL_len (RowV.enc true) RowV.markE RowV.farE l k hi,List.getD_eq_getElem?_getD,markL_at (RowV.enc true) RowV.markE RowV.farE l k hi',markL_reat (RowV.enc true) RowV.markE RowV.farE l k hi',Option.getD_some,IntWalk.i64_in]
   repeat (first | refine ⟨by decide,?_⟩ | refine ⟨decide_eq_true hi',?_⟩)
   refine .of (c_l_markByteS (l[i].Old.B) _ (by omega) (by omega)) ?_
   simp -implicitDefEqProofs (maxSteps:=1000000) (disch:=omega) only [go_sem,storeAp,setCells,List.length_set,List.set_set,markL_len (RowV.enc true) RowV.markE RowV.farE l k hi,List.getD_eq_getElem?_getD,markL_at (RowV.enc true) RowV.markE RowV.farE l k hi',markL_reat (RowV.enc true) RowV.markE RowV.farE l k hi',Option.getD_some,IntWalk.i64_in]
   repeat (first | refine ⟨by decide,?_⟩ | refine ⟨decide_eq_true hi',?_⟩)
   refine .of (c_l_markByteS (l[i].New.B) _ (by omega) (by omega)) ?_
   simp -implicitDefEqProofs (maxSteps:=1000000) (disch:=omega) only [go_sem,storeAp,setCells,List.length_set,List.set_set,markL_len (RowV.enc true) RowV.markE RowV.farE l k hi,List.getD_eq_getElem?_getD,markL_at (RowV.enc true) RowV.markE RowV.farE l k hi',markL_reat (RowV.enc true) RowV.markE RowV.farE l k hi',Option.getD_some,IntWalk.i64_in]
   repeat (first | refine ⟨by decide,?_⟩ | refine ⟨decide_eq_true hi',?_⟩)
   refine ⟨i + 1,?_,hi',by omega⟩
   rw [hnext,← hset]
   rfl
  ·have:i=l.length:=by simp only [decide_eq_false_iff_not] at h; omega
   subst this
   simp -implicitDefEqProofs (maxSteps:=1000000) only [go_sem,List.take_length,List.drop_length,List.map_nil,List.append_nil]
def x_l_szCell:FnX:=⟨12,[.tmp 4],
  .q [.v 2 0,.i 4 0]
 (.q [.f 5 2 1,.l 6 5,.m 7 1,.c 8 167 [6,7],.m 1 8]
 (.seq (.q [.m 9 1,.B 10 .lss 9 0]
 (.c 10 (.q [.i 4 (-1)]
 .ret)))
 (.q [.m 11 1,.m 4 11]
 .ret)))⟩
theorem r_l_szCell {Te:TE} (c_l_szByteS:C_l_szByteS Te):C_l_szCell (RF Te x_l_szCell):=by
 intro x k hx hk
 refine run0 ?_
 have h0:=hx
 simp -implicitDefEqProofs (maxSteps:=1000000) (disch:=omega) only [x_l_szCell,go_sem,IntWalk.i64_in]
 refine .of (c_l_szByteS _ _ h0 hk) ?_
 simp -implicitDefEqProofs (maxSteps:=1000000) (disch:=omega) only [go_sem,IntWalk.i64_in]
 refine ⟨fun q0=>?_,fun q0=>?_⟩
 ·simp only [decide_eq_true_eq] at q0
  simp only [szCell,szAll,if_pos q0]
 ·simp only [decide_eq_false_iff_not] at q0
  have k1:0≤(left (k - (x.B.length:Nat)))∧(left (k - (x.B.length:Nat)))≤2 ^ 48:=⟨by omega,Int.le_trans (Sane.left _ _ hk.1) hk.2⟩
  simp only [szCell,szAll,if_neg q0]
def x_l_toCell:FnX:=⟨12,[.cell 2 (some 2)],
  .q [.v 1 0,.op 2 (.alloc [.i 0,.nils 1])]
 (.q [.op 3 (.alloc [.i 0,.nils 1])]
 (.q [.f 4 1 0,.l 5 4,.f 6 3 0,.s 100001 1 6 5]
 (.q [.f 7 1 1,.l 8 7,.c 9 11 [8],.f 10 3 1,.s 100002 1 10 9]
 (.q [.L 11 2 3,.s 100003 2 2 11]
 .ret))))⟩
theorem r_l_toCell {Te:TE} (c_l_toByteS:C_l_toByteS Te):C_l_toCell (RF Te x_l_toCell):=by
 intro x hx
 refine run0 ?_
 have h0:x.B.length≤2 ^ 21:=hx
 simp -implicitDefEqProofs (maxSteps:=1000000) only [x_l_toCell,go_sem]
 exact D0 (c_l_toByteS _ (Nat.le_trans h0 (by decide)))
def x_l_eqCell:FnX:=⟨16,[.tmp 4],
  .q [.v 2 0,.v 3 1,.F 4]
 (.seq (.q [.f 5 2 0,.l 6 5,.f 7 3 0,.l 8 7,.b 9 .neq 6 8]
 (.c 9 (.q [.F 4]
 .ret)))
 (.seq (.q [.f 10 2 1,.l 11 10,.f 12 3 1,.l 13 12,.c 14 14 [11,13],.N 15 14]
 (.c 15 (.q [.F 4]
 .ret)))
 (.q [.T 4]
 .ret)))⟩
theorem r_l_eqCell {Te:TE} (c_l_eqByteS:C_l_eqByteS Te):C_l_eqCell (RF Te x_l_eqCell):=by
 intro x y hx
 refine run0 ?_
 have h0:x.B.length≤2 ^ 21:=hx
 have key:(x=y)↔x.Tag=y.Tag∧x.B=y.B:=by cases x; cases y; simp
 simp only [key]
 clear key
 simp -implicitDefEqProofs (maxSteps:=1000000) only [x_l_eqCell,go_sem]
 refine ⟨fun q=>?_,fun q=>?_⟩
 ·have n0:¬ (x.Tag=y.Tag):=by simpa using q
  simp only [n0,false_and,and_false,true_and,decide_false]
 have e0:x.Tag=y.Tag:=by simpa using q
 clear q
 refine .of (c_l_eqByteS _ _ (Nat.le_trans h0 (by decide))) ?_
 simp -implicitDefEqProofs (maxSteps:=1000000) only [go_sem]
 refine ⟨fun q=>?_,fun q=>?_⟩
 ·have n1:¬ (x.B=y.B):=by simpa using q
  simp only [e0,n1,false_and,and_false,true_and,decide_false]
 have e1:x.B=y.B:=by simpa using q
 clear q
 simp only [e0,e1,true_and,and_true,decide_true]
def x_l_szRow:FnX:=⟨25,[.tmp 4],
  .q [.v 2 0,.i 4 0]
 (.q [.m 5 1,.f 6 2 0,.l 7 6,.op 8 (.slen (.t 7)),.b 9 .sub 5 8,.m 1 9]
 (.seq (.q [.m 10 1,.B 11 .lss 10 0]
 (.c 11 (.q [.i 4 (-1)]
 .ret)))
 (.q [.f 12 2 1,.L 13 2 12,.m 14 1,.c 15 222 [13,14],.m 1 15]
 (.seq (.q [.m 16 1,.B 17 .lss 16 0]
 (.c 17 (.q [.i 4 (-1)]
 .ret)))
 (.q [.f 18 2 3,.L 19 2 18,.m 20 1,.c 21 222 [19,20],.m 1 21]
 (.seq (.q [.m 22 1,.B 23 .lss 22 0]
 (.c 23 (.q [.i 4 (-1)]
 .ret)))
 (.q [.m 24 1,.m 4 24]
 .ret)))))))⟩
theorem r_l_szRow {Te:TE} (c_l_szCell:C_l_szCell Te):C_l_szRow (RF Te x_l_szRow):=by
 intro x k hx hk
 refine run0 ?_
 obtain ⟨h0,h1,h2⟩:=hx
 simp -implicitDefEqProofs (maxSteps:=1000000) (disch:=omega) only [x_l_szRow,go_sem,IntWalk.i64_in]
 refine ⟨fun q0=>?_,fun q0=>?_⟩
 ·simp only [decide_eq_true_eq] at q0
  simp only [szRow,szAll,if_pos q0]
 ·simp only [decide_eq_false_iff_not] at q0
  have k1:0≤(k - (x.Key.size:Nat))∧(k - (x.Key.size:Nat))≤2 ^ 48:=⟨by omega,Int.le_trans (Sane.sub _ _ hk.1) hk.2⟩
  try simp -implicitDefEqProofs (maxSteps:=1000000) (disch:=omega) only [go_sem,IntWalk.i64_in]
  refine .of (c_l_szCell _ _ h1 k1) ?_
  simp -implicitDefEqProofs (maxSteps:=1000000) (disch:=omega) only [go_sem,IntWalk.i64_in]
  refine ⟨fun q1=>?_,fun q1=>?_⟩
  ·simp only [decide_eq_true_eq] at q1
   simp only [szRow,szAll,if_neg q0,if_pos q1]
  ·simp only [decide_eq_false_iff_not] at q1
   have k2:0≤(szCell x.Old (k - (x.Key.size:Nat)))∧(szCell x.Old (k - (x.Key.size:Nat)))≤2 ^ 48:=⟨by omega,Int.le_trans ((szCell_sane _) _ k1.1) k1.2⟩
   refine .of (c_l_szCell _ _ h2 k2) ?_
   simp -implicitDefEqProofs (maxSteps:=1000000) (disch:=omega) only [go_sem,IntWalk.i64_in]
   refine ⟨fun q2=>?_,fun q2=>?_⟩
   ·simp only [decide_eq_true_eq] at q2
    simp only [szRow,szAll,if_neg q0,if_neg q1,if_pos q2]
   ·simp only [decide_eq_false_iff_not] at q2
    have k3:0≤(szCell x.New (szCell x.Old (k - (x.Key.size:Nat))))∧(szCell x.New (szCell x.Old (k - (x.Key.size:Nat))))≤2 ^ 48:=⟨by omega,Int.le_trans ((szCell_sane _) _ k2.1) k2.2⟩
    simp only [szRow,szAll,if_neg q0,if_neg q1,if_neg q2]
def x_l_toRow:FnX:=⟨22,[.cell 2 (some 7)],
  .q [.v 1 0,.op 2 (.alloc [.e,.i 0,.nils 1,.i 0,.nils 1,.i 0,.F])]
 (.q [.op 3 (.alloc [.e,.i 0,.nils 1,.i 0,.nils 1,.i 0,.F])]
 (.q [.f 4 1 0,.l 5 4,.f 6 3 0,.s 100001 1 6 5]
 (.q [.f 7 1 1,.L 8 2 7,.c 9 223 [8],.f 10 3 1,.s 100002 2 10 9]
 (.q [.f 11 1 3,.L 12 2 11,.c 13 223 [12],.f 14 3 3,.s 100003 2 14 13]
 (.q [.f 15 1 5,.l 16 15,.f 17 3 5,.s 100004 1 17 16]
 (.q [.f 18 1 6,.l 19 18,.f 20 3 6,.s 100005 1 20 19]
 (.q [.L 21 7 3,.s 100006 7 2 21]
 .ret)))))))⟩
theorem r_l_toRow {Te:TE} (c_l_toCell:C_l_toCell Te):C_l_toRow (RF Te x_l_toRow):=by
 intro x hx
 refine run0 ?_
 obtain ⟨h0,h1⟩:=hx
 simp -implicitDefEqProofs (maxSteps:=1000000) only [x_l_toRow,go_sem]
 refine C0 (c_l_toCell _ h0) ?_
 exact D0 (c_l_toCell _ h1)
def x_l_eqRow:FnX:=⟨32,[.tmp 4],
  .q [.v 2 0,.v 3 1,.F 4]
 (.seq (.q [.f 5 2 0,.l 6 5,.f 7 3 0,.l 8 7,.b 9 .neq 6 8]
 (.c 9 (.q [.F 4]
 .ret)))
 (.seq (.q [.f 10 2 1,.L 11 2 10,.f 12 3 1,.L 13 2 12,.c 14 227 [11,13],.N 15 14]
 (.c 15 (.q [.F 4]
 .ret)))
 (.seq (.q [.f 16 2 3,.L 17 2 16,.f 18 3 3,.L 19 2 18,.c 20 227 [17,19],.N 21 20]
 (.c 21 (.q [.F 4]
 .ret)))
 (.seq (.q [.f 22 2 5,.l 23 22,.f 24 3 5,.l 25 24,.b 26 .neq 23 25]
 (.c 26 (.q [.F 4]
 .ret)))
 (.seq (.q [.f 27 2 6,.l 28 27,.f 29 3 6,.l 30 29,.op 31 (.beq true (.t 28) (.t 30))]
 (.c 31 (.q [.F 4]
 .ret)))
 (.q [.T 4]
 .ret))))))⟩
theorem r_l_eqRow {Te:TE} (c_l_eqCell:C_l_eqCell Te):C_l_eqRow (RF Te x_l_eqRow):=by
 intro x y hx
 refine run0 ?_
 obtain ⟨h0,h1⟩:=hx
 have key:(x=y)↔x.Key=y.Key∧x.Old=y.Old∧x.New=y.New∧x.Has=y.Has∧x.Aside=y.Aside:=by cases x; cases y; simp
 simp only [key]
 clear key
 simp -implicitDefEqProofs (maxSteps:=1000000) only [x_l_eqRow,go_sem]
 refine ⟨fun q=>?_,fun q=>?_⟩
 ·have n0:¬ (x.Key=y.Key):=by simpa using q
  simp only [n0,false_and,and_false,true_and,decide_false]
 have e0:x.Key=y.Key:=by simpa using q
 clear q
 refine .of (c_l_eqCell _ _ h0) ?_
 simp -implicitDefEqProofs (maxSteps:=1000000) only [go_sem]
 refine ⟨fun q=>?_,fun q=>?_⟩
 ·have n1:¬ (x.Old=y.Old):=by simpa using q
  simp only [e0,n1,false_and,and_false,true_and,decide_false]
 have e1:x.Old=y.Old:=by simpa using q
 clear q
 refine .of (c_l_eqCell _ _ h1) ?_
 simp -implicitDefEqProofs (maxSteps:=1000000) only [go_sem]
 refine ⟨fun q=>?_,fun q=>?_⟩
 ·have n2:¬ (x.New=y.New):=by simpa using q
  simp only [e0,e1,n2,false_and,and_false,true_and,decide_false]
 have e2:x.New=y.New:=by simpa using q
 clear q
 refine ⟨fun q=>?_,fun q=>?_⟩
 ·have n3:¬ (x.Has=y.Has):=by simpa using q
  simp only [e0,e1,e2,n3,false_and,and_false,true_and,decide_false]
 have e3:x.Has=y.Has:=by simpa using q
 clear q
 refine ⟨fun q=>?_,fun q=>?_⟩
 ·have n4:¬ (x.Aside=y.Aside):=by simpa using q
  simp only [e0,e1,e2,e3,n4,false_and,and_false,true_and,decide_false]
 have e4:x.Aside=y.Aside:=by simpa using q
 clear q
 simp only [e0,e1,e2,e3,e4,true_and,and_true,decide_true]
def x_l_eqWr:FnX:=⟨16,[.tmp 4],
  .q [.v 2 0,.v 3 1,.F 4]
 (.seq (.q [.f 5 2 0,.l 6 5,.f 7 3 0,.l 8 7,.b 9 .neq 6 8]
 (.c 9 (.q [.F 4]
 .ret)))
 (.seq (.q [.f 10 2 1,.l 11 10,.f 12 3 1,.l 13 12,.c 14 14 [11,13],.N 15 14]
 (.c 15 (.q [.F 4]
 .ret)))
 (.q [.T 4]
 .ret)))⟩
theorem r_l_eqWr {Te:TE} (c_l_eqByteS:C_l_eqByteS Te):C_l_eqWr (RF Te x_l_eqWr):=by
 intro x y hx
 refine run0 ?_
 have h0:x.B.length≤2 ^ 21:=hx
 have key:(x=y)↔x.N=y.N∧x.B=y.B:=by cases x; cases y; simp
 simp only [key]
 clear key
 simp -implicitDefEqProofs (maxSteps:=1000000) only [x_l_eqWr,go_sem]
 refine ⟨fun q=>?_,fun q=>?_⟩
 ·have n0:¬ (x.N=y.N):=by simpa using q
  simp only [n0,false_and,and_false,true_and,decide_false]
 have e0:x.N=y.N:=by simpa using q
 clear q
 refine .of (c_l_eqByteS _ _ (Nat.le_trans h0 (by decide))) ?_
 simp -implicitDefEqProofs (maxSteps:=1000000) only [go_sem]
 refine ⟨fun q=>?_,fun q=>?_⟩
 ·have n1:¬ (x.B=y.B):=by simpa using q
  simp only [e0,n1,false_and,and_false,true_and,decide_false]
 have e1:x.B=y.B:=by simpa using q
 clear q
 simp only [e0,e1,true_and,and_true,decide_true]
def x_l_szWrS:FnX:=⟨27,[.tmp 4],
  .q [.i 4 0]
 (.q [.m 6 1,.m 7 0,.n 8 7,.b 9 .sub 6 8,.m 1 9]
 (.seq (.q [.m 10 1,.B 11 .lss 10 0]
 (.c 11 (.q [.i 4 (-1)]
 .ret)))
 (.seq (.q [.i 5 0]
 (.block 0 (.loop [0,1,5] (.seq (.q [.m 12 5,.m 13 0,.n 14 13,.b 15 .lss 12 14]
 (.cond 15 .skip (.exit 0)))
 (.seq (.block 1 (.q [.m 18 0,.m 19 5,.x 20 2 18 19,.L 21 2 20,.m 22 1,.c 23 168 [21,22],.m 1 23]
 (.q [.m 24 1,.B 25 .lss 24 0]
 (.c 25 (.q [.i 4 (-1)]
 .ret)))))
 (.reg [.m 16 5,.B 17 .add 16 1,.m 5 17]))))))
 (.norm [1] (.q [.m 26 1,.m 4 26]
 .ret)))))⟩
theorem r_l_szWrS {Te:TE} (c_l_szWr:C_l_szWr Te):C_l_szWrS (RF Te x_l_szWrS):=by
 intro l k hk hl hs
 refine run0 ?_
 simp -implicitDefEqProofs (maxSteps:=1000000) (disch:=omega) only [x_l_szWrS,go_sem,IntWalk.i64_in]
 refine ⟨fun h=>?_,fun h=>?_⟩
 ·simp only [decide_eq_true_eq] at h
  simp only [szSl,szAll,if_pos h]
 ·simp only [decide_eq_false_iff_not] at h
  refine loop_of (σ:=Nat×Int) (fun x=>⟨[(0,.one (.ro 2 (l.map (WrV.enc false)))),(1,.one (.pv (.int .i64 x.2))),(5,.one (.pv (.int .i64 x.1)))],[],[(0,[slT false 2 (WrV.enc false) l]),(1,[iT k])]⟩) (fun x=>x.1≤l.length∧0≤x.2∧x.2≤k∧szSl szWr l k=szAll ((l.drop x.1).map szWr) x.2) (fun x=>l.length - x.1) (0,k - l.length) ?_ ⟨Nat.zero_le _,by omega,by omega,by simp only [szSl,szAll,if_neg h,List.drop_zero]⟩ ?_
  ·simp -implicitDefEqProofs (maxSteps:=1000000) only [go_sem]; rfl
  ·rintro ⟨i,c⟩ ⟨hi,h0,h1,he⟩
   simp only at hi h0 h1 he
   simp -implicitDefEqProofs (maxSteps:=1000000) only [go_sem]
   refine ⟨fun h=>?_,fun h=>?_⟩
   ·have hi':i < l.length:=by simp only [decide_eq_true_eq] at h; omega
    have hsz:=hs l[i] (List.getElem_mem hi')
    have hsn:szWr l[i] c≤c:=szWr_sane l[i] c h0
    rw [List.drop_eq_getElem_cons hi'] at he
    simp -implicitDefEqProofs (maxSteps:=1000000) (disch:=omega) only [go_sem,List.getElem?_eq_getElem hi',IntWalk.i64_in]
    refine .of (c_l_szWr _ _ hsz ⟨h0,by omega⟩) ?_
    simp -implicitDefEqProofs (maxSteps:=1000000) only [go_sem]
    refine ⟨fun h2=>?_,fun h2=>?_⟩
    ·simp only [decide_eq_true_eq] at h2
     rw [he]
     simp only [List.map_cons,szAll,if_pos h2]
    ·simp only [decide_eq_false_iff_not] at h2
     refine ⟨(i + 1,szWr l[i] c),by rw [IntWalk.i64_in _ (by omega)]; rfl,⟨hi',by omega,by simp only; omega,?_⟩,by simp only; omega⟩
     rw [he]
     simp only [List.map_cons,szAll,if_neg h2]
   ·have hle:l.length≤i:=by simp only [decide_eq_false_iff_not] at h; omega
    rw [List.drop_of_length_le hle] at he
    simp only [szAll,List.map_nil] at he
    rw [he]
def x_l_toWrS:FnX:=⟨23,[.tmp 2],
  .q [.op 2 (.mv (.k (.one (.nils 2))))]
 (.q [.m 5 0,.n 6 5,.op 7 (.mks 2 32 [.pv (.int .i64 0),.sl true 1 () []] (.t 6)),.m 3 7]
 (.seq (.q [.i 4 0]
 (.block 0 (.loop [0,3,4] (.seq (.q [.m 8 4,.m 9 0,.n 10 9,.b 11 .lss 8 10]
 (.cond 11 .skip (.exit 0)))
 (.seq (.block 1 (.reg [.m 14 3,.m 15 4,.m 16 0,.m 17 4,.x 18 2 16 17,.L 19 2 18,.c 20 181 [19],.x 21 2 14 15,.s 100001 2 21 20]))
 (.reg [.m 12 4,.B 13 .add 12 1,.m 4 13]))))))
 (.norm [3] (.q [.m 22 3,.m 2 22]
 .ret))))⟩
theorem r_l_toWrS {Te:TE} (c_l_toWr:C_l_toWr Te):C_l_toWrS (RF Te x_l_toWrS):=by
 intro l hl
 refine run0 ?_
 have hl1:=hl.1
 simp -implicitDefEqProofs (maxSteps:=1000000) (disch:=omega) only [x_l_toWrS,go_sem,IntWalk.i64_in]
 refine ⟨⟨by simp only [decide_eq_true_eq]; omega,by simp only [decide_eq_true_eq]; omega⟩,?_⟩
 refine loop_of (σ:=Nat) (fun i=>⟨[(0,.one (.ro 2 (l.map (WrV.enc false)))),(3,.one (.rf 24 0 [] 2 0 l.length)),(4,.one (.pv (.int .i64 i)))],[],
  [(0,[slT false 2 (WrV.enc false) l]),(24,[.sl true 2 () ((l.take i).map (WrV.enc true)++List.replicate (l.length - i) [.pv (.int .i64 0),.sl true 1 () []])])]⟩) (fun i=>i≤l.length) (fun i=>l.length - i) 0 ?_ (Nat.zero_le _) ?_
 ·simp -implicitDefEqProofs (maxSteps:=1000000) only [go_sem]; rfl
 ·intro i hi
  simp -implicitDefEqProofs (maxSteps:=1000000) only [go_sem]
  refine ⟨fun h=>?_,fun h=>?_⟩
  ·have hi':i < l.length:=by simp only [decide_eq_true_eq] at h; omega
   simp -implicitDefEqProofs (maxSteps:=1000000) only [go_sem,List.getElem?_eq_getElem hi',fill_len (WrV.enc true) l [.pv (.int .i64 0),.sl true 1 () []] hi,storeAp,setCells,List.getD_eq_getElem?_getD,fill_get (WrV.enc true) l [.pv (.int .i64 0),.sl true 1 () []] hi']
   refine .of (c_l_toWr _ (hl.2 _ (List.getElem_mem hi'))) ?_
   simp -implicitDefEqProofs (maxSteps:=1000000) only [go_sem,fill_len (WrV.enc true) l [.pv (.int .i64 0),.sl true 1 () []] hi,storeAp,setCells,List.getD_eq_getElem?_getD,fill_get (WrV.enc true) l [.pv (.int .i64 0),.sl true 1 () []] hi']
   repeat (first | refine ⟨by decide,?_⟩ | refine ⟨by simpa using hi',?_⟩)
   refine ⟨i + 1,?_,hi',by omega⟩
   rw [← fill_set (WrV.enc true) l [.pv (.int .i64 0),.sl true 1 () []] hi',IntWalk.i64_in _ (by omega)]
   rfl
  ·have:i=l.length:=by simp only [decide_eq_false_iff_not] at h; omega
   subst this
   simp -implicitDefEqProofs (maxSteps:=1000000) only [go_sem,fill_len (WrV.enc true) l [.pv (.int .i64 0),.sl true 1 () []] hi,fill_end]
   refine ⟨by simp,?_⟩
   simp [take_map]
def x_s_l2Len:FnX:=⟨18,[.tmp 2],
  .q [.i 2 0]
 (.seq (.block 0 (.q [.m 4 0,.op 5 (.bin .lss (.t 4) (.k (.one (.pv (.int .u8 128))))),.m 3 5]
 (.cond 3 (.q [.i 2 1]
 .ret) (.q [.m 7 0,.op 8 (.conv (.int .i64) (.t 7)),.op 9 (.call 64 [0,0,0] [(.t 8),(.i 194),(.i 223)]),.m 6 9]
 (.cond 6 (.q [.i 2 2]
 .ret) (.q [.m 11 0,.op 12 (.conv (.int .i64) (.t 11)),.op 13 (.call 64 [0,0,0] [(.t 12),(.i 224),(.i 239)]),.m 10 13]
 (.cond 10 (.q [.i 2 3]
 .ret) (.q [.m 15 0,.op 16 (.conv (.int .i64) (.t 15)),.op 17 (.call 64 [0,0,0] [(.t 16),(.i 240),(.i 244)]),.m 14 17]
 (.c 14 (.q [.i 2 4]
 .ret))))))))))
 (.q [.i 2 0]
 .ret))⟩
theorem r_s_l2Len {Te:TE} (c_s_l1In:C_s_l1In Te):C_s_l2Len (RF Te x_s_l2Len):=by
 intro b
 have hb:=b.toNat_lt
 have w:IntKind.i64.wrap (b.toNat:Int)=(b.toNat:Int):=IntWalk.i64_in _ (by omega)
 cases q1:decide ((b.toNat:Int) < 128)
 ·simp only [decide_eq_false_iff_not] at q1
  have q1':=decide_eq_false q1
  refine X2 x_s_l2Len.eq_1 q1' w ?_
  refine C0 (c_s_l1In _ _ _) ?_
  cases q2:win (b.toNat:Int) 194 223
  ·refine G1 w ?_
   refine C0 (c_s_l1In _ _ _) ?_
   cases q3:win (b.toNat:Int) 224 239
   ·refine G1 w ?_
    refine C0 (c_s_l1In _ _ _) ?_
    cases q4:win (b.toNat:Int) 240 244
    ·have e:l2len b.toNat=0:=by
      simp only [win,Bool.and_eq_false_imp,decide_eq_true_eq,decide_eq_false_iff_not] at q2 q3 q4
      unfold l2len
      rw [if_neg (by omega),if_neg (by omega),if_neg (by omega),if_neg (by omega)]
     exact F1 e
    ·have e:l2len b.toNat=4:=by
      simp only [win,Bool.and_eq_true,decide_eq_true_eq] at q4
      unfold l2len
      rw [if_neg (by omega),if_neg (by omega),if_neg (by omega),if_pos (by omega)]
     exact F1 e
   ·have e:l2len b.toNat=3:=by
     simp only [win,Bool.and_eq_true,decide_eq_true_eq] at q3
     unfold l2len
     rw [if_neg (by omega),if_neg (by omega),if_pos (by omega)]
    exact F1 e
  ·have e:l2len b.toNat=2:=by
    simp only [win,Bool.and_eq_true,decide_eq_true_eq] at q2
    unfold l2len
    rw [if_neg (by omega),if_pos (by omega)]
   exact F1 e
 ·simp only [decide_eq_true_eq] at q1
  have q1':=decide_eq_true q1
  have e:l2len b.toNat=1:=if_pos (by omega)
  refine X2 x_s_l2Len.eq_1 q1' e ?_
  try rfl
def x_s_NodeOk:FnX:=⟨11,[.tmp 2],
  .q [.v 1 0,.F 2]
 (.q [.f 3 1 0,.L 4 9 3,.c 5 108 [4],.m 6 5,.y 6 (.f 7 1 9),.y 6 (.l 8 7),.y 6 (.op 9 (.call 64 [0,0,0] [(.t 8),(.i 1),(.i 5)])),.a 10 6 9,.m 2 10]
 .ret)⟩
theorem r_s_NodeOk {Te:TE} (c_s_StoreOk:C_s_StoreOk Te) (c_s_l1In:C_s_l1In Te):C_s_NodeOk (RF Te x_s_NodeOk):=by
 intro n h
 refine run0 ?_
 simp -implicitDefEqProofs (maxSteps:=1000000) only [x_s_NodeOk,go_sem,NodeV.ok]
 repeat refine ⟨sc,?_⟩
 try exact sf
 refine C0 (c_s_StoreOk n.S h) ?_
 cases g1:n.S.ok
 ·exact F0
 ·refine G0 ?_
  exact D0 (c_s_l1In _ _ _)
end Go.X

