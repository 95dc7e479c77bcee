/- Texts: CVza CVu_3 CVzt_3 CVzs_3 CVzs CVm CUl CVg_2 CVx CVf CVd_2. -/
import Derived.Test.YtmmjaijeeeilcaaGreatDoorB04
set_option linter.unusedVariables false
set_option linter.unusedSimpArgs false
namespace Go.X
set_option maxRecDepth 100000
set_option maxHeartbeats 8000000
def x_i_RowOf:FnX:=⟨79,[.cell 8 (some 7),.tmp 9],
  .q [.op 8 (.alloc [.e,.i 0,.nils 1,.i 0,.nils 1,.i 0,.F]),.i 9 0]
 (.q [.m 18 3,.op 19 (.call 251 [0,0] [(.i 0),(.t 18)]),.m 17 19,.e 20 17 0,.e 21 17 1,.op 10 (.alloc [.i 0,.nils 1]),.s 100001 2 10 20,.m 11 21]
 (.seq (.q [.m 22 0,.op 23 (.call 90 [0,0,0] [(.t 22),(.i 0),(.i 7)]),.N 24 23,.m 25 24,.z 25 (.m 26 1),.z 25 (.c 27 98 [26]),.z 25 (.N 28 27),.r 29 25 28,.m 30 29,.z 30 (.m 31 2),.z 30 (.op 32 (.call 90 [0,0,0] [(.t 31),(.i 1),(.i 5)])),.z 30 (.N 33 32),.r 34 30 33,.m 35 34,.z 35 (.m 36 11),.z 35 (.N 37 36),.r 38 35 37]
 (.c 38 (.q [.op 39 (.build [.e,.i 0,.nils 1,.i 0,.nils 1,.i 0,.F] []),.s 100002 7 8 39,.i 9 1]
 .ret)))
 (.q [.m 41 2,.m 42 3,.c 43 251 [41,42],.m 40 43,.e 44 40 0,.e 45 40 1,.op 12 (.alloc [.i 0,.nils 1]),.s 100003 2 12 44,.m 13 45]
 (.q [.m 46 1,.L 47 2 12,.op 48 (.build [.e,.i 0,.nils 1,.i 0,.nils 1,.i 0,.F] [(0,1,(.t 46)),(1,2,(.t 47)),(5,1,(.i 1))]),.op 14 (.alloc [.e,.i 0,.nils 1,.i 0,.nils 1,.i 0,.F]),.s 100004 7 14 48]
 (.q [.m 49 1,.L 50 2 10,.op 51 (.build [.e,.i 0,.nils 1,.i 0,.nils 1,.i 0,.F] [(0,1,(.t 49)),(3,2,(.t 50)),(5,1,(.i 2))]),.op 15 (.alloc [.e,.i 0,.nils 1,.i 0,.nils 1,.i 0,.F]),.s 100005 7 15 51]
 (.q [.L 52 7 15,.op 16 (.alloc [.e,.i 0,.nils 1,.i 0,.nils 1,.i 0,.F]),.s 100006 7 16 52]
 (.q [.f 53 16 6,⟨none,none,100007,.store 1 (.t 53) .T⟩]
 (.seq (.q [.m 54 0]
 (.block 0 (.seq (.q [.B 56 .eql 54 0,.m 55 56]
 (.cond 55 .skip (.reg [.B 57 .eql 54 7,.m 55 57])))
 (.cond 55 (.seq (.q [.m 58 13,.N 59 58]
 (.c 59 (.q [.op 60 (.build [.e,.i 0,.nils 1,.i 0,.nils 1,.i 0,.F] []),.s 100008 7 8 60,.i 9 3]
 .ret)))
 (.q [.L 61 7 14,.s 100009 7 8 61,.i 9 0]
 .ret)) (.seq (.q [.B 63 .eql 54 4,.m 62 63]
 (.cond 62 .skip (.reg [.B 64 .eql 54 5,.m 62 64])))
 (.cond 62 (.q [.L 65 7 15,.s 100010 7 8 65,.i 9 0]
 .ret) (.q [.B 67 .eql 54 6,.m 66 67]
 (.c 66 (.seq (.q [.m 68 13,.N 69 68]
 (.c 69 (.q [.L 70 7 16,.s 100011 7 8 70,.i 9 0]
 .ret)))
 (.q [.L 71 7 14,.s 100012 7 8 71,.i 9 0]
 .ret))))))))))
 (.seq (.q [.m 72 13,.N 73 72]
 (.c 73 (.q [.L 74 7 16,.s 100013 7 8 74,.i 9 0]
 .ret)))
 (.q [.m 75 1,.L 76 2 12,.L 77 2 10,.op 78 (.build [.e,.i 0,.nils 1,.i 0,.nils 1,.i 0,.F] [(0,1,(.t 75)),(1,2,(.t 76)),(3,2,(.t 77)),(5,1,(.i 3))]),.s 100014 7 8 78,.i 9 0]
 .ret))))))))))⟩
theorem r_i_RowOf {Te:TE} (c_i_CellOf:C_i_CellOf Te) (c_i_within:C_i_within Te) (c_i_NameOk:C_i_NameOk Te):C_i_RowOf (RF Te x_i_RowOf):=by
 intro ph key cs s hk hs
 refine X0 x_i_RowOf.eq_1 ?_
 refine C0 (c_i_CellOf 0 s hs) ?_
 refine C0 (c_i_within _ _ _) ?_
 cases g1:win ph 0 7
 ·try simp -implicitDefEqProofs (maxSteps:=1000000) only [go_sem,rowOf,rowFine,g1,take_rows]
  repeat refine ⟨sc,?_⟩
  try exact sf
  try rfl
 refine G0 ?_
 refine C0 (c_i_NameOk key (by omega)) ?_
 cases g2:nameOk key
 ·try simp -implicitDefEqProofs (maxSteps:=1000000) only [go_sem,rowOf,rowFine,g1,g2,take_rows]
  repeat refine ⟨sc,?_⟩
  try exact sf
  try rfl
 refine G0 ?_
 refine C0 (c_i_within _ _ _) ?_
 cases g3:win cs 1 5
 ·try simp -implicitDefEqProofs (maxSteps:=1000000) only [go_sem,rowOf,rowFine,g1,g2,g3,take_rows]
  repeat refine ⟨sc,?_⟩
  try exact sf
  try rfl
 refine G0 ?_
 cases g4:(cellOf 0 s).2
 ·try simp -implicitDefEqProofs (maxSteps:=1000000) only [go_sem,rowOf,rowFine,g1,g2,g3,g4,take_rows]
  repeat refine ⟨sc,?_⟩
  try exact sf
  try rfl
 refine G1 g4 ?_
 refine C0 (c_i_CellOf cs s hs) ?_
 cases g5:(cellOf cs s).2 <;> cases p0:(ph==0) <;> cases p7:(ph==7) <;> cases p4:(ph==4) <;> cases p5:(ph==5) <;> cases p6:(ph==6)
 all_goals
  try simp -implicitDefEqProofs (maxSteps:=1000000) only [go_sem,rowOf,rowFine,g1,g2,g3,g4,g5,p0,p7,p4,p5,p6,take_rows]
  try rfl
def x_s_RowOf:FnX:=⟨77,[.cell 8 (some 7),.tmp 9],
  .q [.op 8 (.alloc [.e,.i 0,.nils 1,.i 0,.nils 1,.i 0,.F]),.i 9 0]
 (.q [.m 15 3,.op 16 (.call 200 [0,0] [(.i 0),(.t 15)]),.m 14 16,.e 17 14 0,.e 18 14 1,.op 10 (.alloc [.i 0,.nils 1]),.s 100001 2 10 17,.m 11 18]
 (.seq (.q [.m 19 0,.op 20 (.call 120 [0,0,0] [(.t 19),(.i 0),(.i 7)]),.N 21 20,.m 22 21,.z 22 (.m 23 1),.z 22 (.c 24 101 [23]),.z 22 (.N 25 24),.r 26 22 25,.m 27 26,.z 27 (.m 28 2),.z 27 (.op 29 (.call 120 [0,0,0] [(.t 28),(.i 1),(.i 5)])),.z 27 (.N 30 29),.r 31 27 30,.m 32 31,.z 32 (.m 33 11),.z 32 (.N 34 33),.r 35 32 34]
 (.c 35 (.q [.op 36 (.build [.e,.i 0,.nils 1,.i 0,.nils 1,.i 0,.F] []),.s 100002 7 8 36,.i 9 1]
 .ret)))
 (.q [.m 38 2,.m 39 3,.c 40 200 [38,39],.m 37 40,.e 41 37 0,.e 42 37 1,.op 12 (.alloc [.i 0,.nils 1]),.s 100003 2 12 41,.m 13 42]
 (.seq (.q [.m 43 0]
 (.block 0 (.seq (.q [.B 45 .eql 43 0,.m 44 45]
 (.cond 44 .skip (.reg [.B 46 .eql 43 7,.m 44 46])))
 (.cond 44 (.seq (.q [.m 47 13,.N 48 47]
 (.c 48 (.q [.op 49 (.build [.e,.i 0,.nils 1,.i 0,.nils 1,.i 0,.F] []),.s 100004 7 8 49,.i 9 3]
 .ret)))
 (.q [.m 50 1,.L 51 2 12,.op 52 (.build [.e,.i 0,.nils 1,.i 0,.nils 1,.i 0,.F] [(0,1,(.t 50)),(1,2,(.t 51)),(5,1,(.i 1))]),.s 100005 7 8 52,.i 9 0]
 .ret)) (.seq (.q [.B 54 .eql 43 4,.m 53 54]
 (.cond 53 .skip (.reg [.B 55 .eql 43 5,.m 53 55])))
 (.cond 53 (.q [.m 56 1,.L 57 2 10,.op 58 (.build [.e,.i 0,.nils 1,.i 0,.nils 1,.i 0,.F] [(0,1,(.t 56)),(3,2,(.t 57)),(5,1,(.i 2))]),.s 100006 7 8 58,.i 9 0]
 .ret) (.q [.B 60 .eql 43 6,.m 59 60]
 (.c 59 (.seq (.q [.m 61 13]
 (.c 61 (.q [.m 62 1,.L 63 2 12,.op 64 (.build [.e,.i 0,.nils 1,.i 0,.nils 1,.i 0,.F] [(0,1,(.t 62)),(1,2,(.t 63)),(5,1,(.i 1))]),.s 100007 7 8 64,.i 9 0]
 .ret)))
 (.q [.m 65 1,.L 66 2 10,.op 67 (.build [.e,.i 0,.nils 1,.i 0,.nils 1,.i 0,.F] [(0,1,(.t 65)),(3,2,(.t 66)),(5,1,(.i 2)),(6,1,.T)]),.s 100008 7 8 67,.i 9 0]
 .ret))))))))))
 (.seq (.q [.m 68 13,.N 69 68]
 (.c 69 (.q [.m 70 1,.L 71 2 10,.op 72 (.build [.e,.i 0,.nils 1,.i 0,.nils 1,.i 0,.F] [(0,1,(.t 70)),(3,2,(.t 71)),(5,1,(.i 2)),(6,1,.T)]),.s 100009 7 8 72,.i 9 0]
 .ret)))
 (.q [.m 73 1,.L 74 2 12,.L 75 2 10,.op 76 (.build [.e,.i 0,.nils 1,.i 0,.nils 1,.i 0,.F] [(0,1,(.t 73)),(1,2,(.t 74)),(3,2,(.t 75)),(5,1,(.i 3))]),.s 100010 7 8 76,.i 9 0]
 .ret))))))⟩
theorem r_s_RowOf {Te:TE} (c_s_CellOf:C_s_CellOf Te) (c_s_l1In:C_s_l1In Te) (c_s_NameOk:C_s_NameOk Te):C_s_RowOf (RF Te x_s_RowOf):=by
 intro ph key cs s hk hs
 refine X0 x_s_RowOf.eq_1 ?_
 refine C0 (c_s_CellOf 0 s hs) ?_
 refine C0 (c_s_l1In _ _ _) ?_
 cases g1:win ph 0 7
 ·try simp -implicitDefEqProofs (maxSteps:=1000000) only [go_sem,rowOf,rowFine,g1,take_rows]
  repeat refine ⟨sc,?_⟩
  try exact sf
  try rfl
 refine G0 ?_
 refine C0 (c_s_NameOk key (by omega)) ?_
 cases g2:nameOk key
 ·try simp -implicitDefEqProofs (maxSteps:=1000000) only [go_sem,rowOf,rowFine,g1,g2,take_rows]
  repeat refine ⟨sc,?_⟩
  try exact sf
  try rfl
 refine G0 ?_
 refine C0 (c_s_l1In _ _ _) ?_
 cases g3:win cs 1 5
 ·try simp -implicitDefEqProofs (maxSteps:=1000000) only [go_sem,rowOf,rowFine,g1,g2,g3,take_rows]
  repeat refine ⟨sc,?_⟩
  try exact sf
  try rfl
 refine G0 ?_
 cases g4:(cellOf 0 s).2
 ·try simp -implicitDefEqProofs (maxSteps:=1000000) only [go_sem,rowOf,rowFine,g1,g2,g3,g4,take_rows]
  repeat refine ⟨sc,?_⟩
  try exact sf
  try rfl
 refine G1 g4 ?_
 refine C0 (c_s_CellOf cs s hs) ?_
 cases g5:(cellOf cs s).2 <;> cases p0:(ph==0) <;> cases p7:(ph==7) <;> cases p4:(ph==4) <;> cases p5:(ph==5) <;> cases p6:(ph==6)
 all_goals
  try simp -implicitDefEqProofs (maxSteps:=1000000) only [go_sem,rowOf,rowFine,g1,g2,g3,g4,g5,p0,p7,p4,p5,p6,take_rows]
  try rfl
def x_s_l13Add_1:XCode:=.seq (.q [.m 37 0,.op 38 (.nilc (.t 37)),.f 39 38 0,.f 40 39 3,.l 41 40,.m 42 41,.z 42 (.m 43 0),.z 42 (.op 44 (.nilc (.t 43))),.z 42 (.f 45 44 8),.z 42 (.l 46 45),.z 42 (.B 47 .eql 46 30),.r 48 42 47]
 (.c 48 (.q [.F 4]
 .ret)))
 (.seq (.draw [.m 49 0,.op 50 (.nilc (.t 49)),.f 51 50 0,.m 52 0,.op 53 (.nilc (.t 52)),.f 54 53 7,.l 55 54,.m 56 0,.op 57 (.nilc (.t 56)),.f 58 57 8,.l 59 58,.c 60 193 [55,59],.m 61 0,.op 62 (.nilc (.t 61)),.f 63 62 7,.l 64 63,.m 65 0,.op 66 (.nilc (.t 65)),.f 67 66 8,.l 68 67,.L 69 13 3,.c 70 194 [64,68,69],.op 71 (.call 192 [6,0,0] [(.t 51),(.t 60),(.t 70)])] [[],[0],[1],[],[3],[4],[5],[],[7],[8],[9],[6,10],[],[12],[13],[14],[],[16],[17],[18],[],[15,19,20,11],[2,11,21,21]])
 (.q [.m 72 0,.op 73 (.nilc (.t 72)),.f 74 73 0,.op 75 (.call 195 [6] [(.t 74)])]
 (.seq (.q [.m 76 0,.op 77 (.nilc (.t 76)),.f 78 77 0,.f 79 78 3,.l 80 79]
 (.c 80 (.q [.F 4]
 .ret)))
 (.q [.m 81 0,.m 82 0,.op 83 (.nilc (.t 82)),.f 84 83 8,.l 85 84,.B 86 .add 85 1,.op 87 (.nilc (.t 81)),.f 88 87 8,.s 100002 1 88 86]
 (.q [.m 89 0,.L 90 3 5,.op 91 (.nilc (.t 89)),.f 92 91 4,.s 100003 3 92 90]
 (.q [.T 4]
 .ret))))))
def x_s_l13Add:FnX:=⟨93,[.tmp 4],
  .q [.v 3 1,.F 4]
 (.seq (.draw [.m 8 0,.op 9 (.nilc (.t 8)),.f 10 9 4,.L 11 3 10,.L 12 13 3,.c 13 190 [11,12],.m 7 13,.e 14 7 0,.e 15 7 1,.op 5 (.alloc [.nils 7,.i 0,.nils 3]),.s 100001 3 5 14,.m 6 15] [[],[0],[1],[2],[],[3,4],[5],[6],[6],[],[9,7,5,0,1,2,3,4,5,6,7,9],[8,10,0,1,2,3,4,5,6,7,8,9,10]])
 (.seq (.q [.m 16 6,.N 17 16]
 (.c 17 (.q [.F 4]
 .ret)))
 (.seq (.q [.m 18 0,.op 19 (.nilc (.t 18)),.f 20 19 8,.l 21 20,.B 22 .eql 21 30,.m 23 22,.y 23 (.m 24 0),.y 23 (.op 25 (.nilc (.t 24))),.y 23 (.f 26 25 7),.y 23 (.l 27 26),.y 23 (.B 28 .lss 27 60000),.a 29 23 28]
 (.c 29 (.reg [.m 30 0,.m 31 0,.op 32 (.nilc (.t 31)),.f 33 32 7,.l 34 33,.B 35 .add 34 1,.op 36 (.call 191 [11,0] [(.t 30),(.t 35)])])))
 (.norm [0,3,5] (x_s_l13Add_1)))))⟩
theorem r_s_l13Add {Te:TE} (c_s_Apply:C_s_Apply Te) (c_s_l13Lay:C_s_l13Lay Te) (c_s_l13At:C_s_l13At Te) (c_s_PutRec:C_s_PutRec Te) (c_s_l10Write:C_s_l10Write Te) (c_s_l10Flush:C_s_l10Flush Te):C_s_l13Add (RF Te x_s_l13Add):=by
 intro s r hk hd hT hr
 have q:=room_ok hk hT
 have hk1:=(StoreV.ok_iff s).1 hk
 refine X0 x_s_l13Add.eq_1 ?_
 refine C0 (c_s_Apply s.T r hT hr) ?_
 cases g3:(s.T.apply r).2
 ·have e:s.add r=(s,false):=by rw [StoreV.add,StoreV.fits,hk,hd,g3]; rfl
  exact F2 g3 e
 have e:s.add r=s.room.end (s.T.apply r).1 r:=by rw [StoreV.add,StoreV.fits,hk,hd,g3]; rfl
 rw [e]
 generalize (s.T.apply r).1=t
 have hr8:=hr.mono (m:=2 ^ 48) (by decide)
 clear e
 cases g4:(s.Place==30)
 ·have er:s.room=s:=by rw [StoreV.room,g4]; rfl
  rw [er] at q ⊢
  have f2:=write_ok q.1 (secOf s.Gen s.Place) (putRec s.Gen s.Place r)
  have hp:=putRec_len s.Gen s.Place r
  have ew:IntKind.i64.wrap (s.Place + 1)=s.Place + 1:=IntWalk.i64_in _ (by omega)
  have hcl:=(DevV.ok_iff _).1 q.1
  have hcl2:=(DevV.ok_iff _).1 f2
  have t1:=c_s_l10Write s.D (secOf s.Gen s.Place) (putRec s.Gen s.Place r) (by omega) (by omega)
  simp only [DevV.enc,hd] at t1
  refine G3 g3 hd g4 ?_
  simp -implicitDefEqProofs (maxSteps:=1000000) only [x_s_l13Add_1,go_sem,g4]
  repeat refine ⟨sc,?_⟩
  refine C0 (c_s_l13At _ _) ?_
  refine C0 (c_s_PutRec s.Gen s.Place r hr8) ?_
  refine C0 (t1) ?_
  refine .of (c_s_l10Flush _ (by omega) (DevV.ok_idx f2)) ?_
  try simp -implicitDefEqProofs (maxSteps:=1000000) only [go_sem,take_all]
  repeat refine ⟨sc,?_⟩
  try exact sf
  have el:((s.D.write (secOf s.Gen s.Place) (putRec s.Gen s.Place r)).flush)=s.log r:=rfl
  rw [el]
  cases g9:(s.log r).Down
  ·have e2:s.end t r=(⟨s.log r,t,s.Gen,s.Place + 1⟩,true):=by rw [StoreV.end,hd,g4,g9]; rfl
   try simp -implicitDefEqProofs (maxSteps:=1000000) only [go_sem,g9,ew,e2,take_all,take_marks,StoreV.enc]
   repeat refine ⟨sc,?_⟩
   try exact sf
   try rfl
  ·have e2:s.end t r=(⟨s.log r,s.T,s.Gen,s.Place⟩,false):=by rw [StoreV.end,hd,g4,g9]; rfl
   try simp -implicitDefEqProofs (maxSteps:=1000000) only [go_sem,g9,e2,take_all,take_marks,StoreV.enc]
   repeat refine ⟨sc,?_⟩
   try exact sf
   try rfl
 cases g5:(s.Gen==60000)
 ·have er:s.room=s.lay (s.Gen + 1):=by rw [StoreV.room,g4,StoreV.relay,hk,hd,g5]; rfl
  have g6:decide (s.Gen < 60000)=true:=by simp only [beq_eq_false_iff_ne] at g5; exact decide_eq_true (by omega)
  have ew:IntKind.i64.wrap (s.Gen + 1)=s.Gen + 1:=IntWalk.i64_in _ (by omega)
  rw [er] at q ⊢
  refine G4 g3 g4 g6 ew ?_
  refine C0 (c_s_l13Lay s (s.Gen + 1) hk1.1 hT) ?_
  generalize s.lay (s.Gen + 1)=S at q ⊢
  cases gd:S.D.Down
  rotate_left
  ·have e2:S.end t r=(S,false):=by rw [StoreV.end,gd]; rfl
   try simp -implicitDefEqProofs (maxSteps:=1000000) only [go_sem,x_s_l13Add_1,gd,e2,take_all,take_marks,StoreV.enc]
   repeat refine ⟨sc,?_⟩
   try exact sf
   try rfl
  cases gp:(S.Place==30)
  rotate_left
  ·have e2:S.end t r=(S,false):=by rw [StoreV.end,gd,gp]; rfl
   try simp -implicitDefEqProofs (maxSteps:=1000000) only [go_sem,x_s_l13Add_1,gd,gp,e2,take_all,take_marks,StoreV.enc]
   repeat refine ⟨sc,?_⟩
   try exact sf
   try rfl
  have f2:=write_ok q.1 (secOf S.Gen S.Place) (putRec S.Gen S.Place r)
  have hp:=putRec_len S.Gen S.Place r
  have ew:IntKind.i64.wrap (S.Place + 1)=S.Place + 1:=IntWalk.i64_in _ (by omega)
  have hcl:=(DevV.ok_iff _).1 q.1
  have hcl2:=(DevV.ok_iff _).1 f2
  have t1:=c_s_l10Write S.D (secOf S.Gen S.Place) (putRec S.Gen S.Place r) (by omega) (by omega)
  simp only [DevV.enc,gd] at t1
  simp -implicitDefEqProofs (maxSteps:=1000000) only [x_s_l13Add_1,go_sem,gd,gp]
  repeat refine ⟨sc,?_⟩
  refine C0 (c_s_l13At _ _) ?_
  refine C0 (c_s_PutRec S.Gen S.Place r hr8) ?_
  refine C0 (t1) ?_
  refine .of (c_s_l10Flush _ (by omega) (DevV.ok_idx f2)) ?_
  try simp -implicitDefEqProofs (maxSteps:=1000000) only [go_sem,take_all]
  repeat refine ⟨sc,?_⟩
  try exact sf
  have el:((S.D.write (secOf S.Gen S.Place) (putRec S.Gen S.Place r)).flush)=S.log r:=rfl
  rw [el]
  cases g9:(S.log r).Down
  ·have e2:S.end t r=(⟨S.log r,t,S.Gen,S.Place + 1⟩,true):=by rw [StoreV.end,gd,gp,g9]; rfl
   try simp -implicitDefEqProofs (maxSteps:=1000000) only [go_sem,g9,ew,e2,take_all,take_marks,StoreV.enc]
   repeat refine ⟨sc,?_⟩
   try exact sf
   try rfl
  ·have e2:S.end t r=(⟨S.log r,S.T,S.Gen,S.Place⟩,false):=by rw [StoreV.end,gd,gp,g9]; rfl
   try simp -implicitDefEqProofs (maxSteps:=1000000) only [go_sem,g9,e2,take_all,take_marks,StoreV.enc]
   repeat refine ⟨sc,?_⟩
   try exact sf
   try rfl
 ·have er:s.room=s:=by rw [StoreV.room,g4,StoreV.relay,g5,Bool.not_true,Bool.and_false]; rfl
  have g6:decide (s.Gen < 60000)=false:=by simp only [beq_iff_eq] at g5; exact decide_eq_false (by omega)
  have e2:s.end t r=(s,false):=by rw [StoreV.end,g4,Bool.or_true]; rfl
  rw [er] at q ⊢
  refine G4 g3 hd g4 g6 ?_
  try simp -implicitDefEqProofs (maxSteps:=1000000) only [go_sem,x_s_l13Add_1,hd,g4,e2,take_all,take_marks,StoreV.enc]
  repeat refine ⟨sc,?_⟩
  try exact sf
  try rfl
def x_s_DrawNodePut:FnX:=⟨46,[.cell 2 (some 10),.tmp 3,.tmp 4,.tmp 5,.tmp 6],
  .q [.op 2 (.alloc [.nils 1,.nils 2,.i 0,.F,.nils 7,.i 0,.nils 3,.i 0,.i 0,.i 0]),.i 3 0,.i 4 0,.op 5 (.mv (.k (.one (.pv (.string ⟨#[]⟩))))),.op 6 (.mv (.k (.one (.pv (.string ⟨#[]⟩)))))]
 (.q [.m 11 0,.c 12 58 [11],.m 7 12]
 (.q [.m 13 7,.op 14 (.call 92 [5,0] [(.t 13),(.i 10)]),.op 8 (.alloc [.nils 1,.nils 2,.i 0,.F,.nils 7,.i 0,.nils 3,.i 0,.i 0,.i 0]),.s 100001 10 8 14]
 (.q [.m 15 7,.op 16 (.call 93 [5] [(.t 15)]),.m 9 16]
 (.seq (.q [.m 17 7,.op 18 (.call 94 [5,0] [(.t 17),(.i 10)])]
 (.c 18 (.reg [.m 19 7,.op 20 (.call 95 [5] [(.t 19)]),.m 9 20])))
 (.q [.m 21 7,.m 22 7,.f 23 8 9,.l 24 23,.f 25 8 9,.l 26 25,.op 27 (.bslice 1 [(.t 24),(.t 26),(.i 0)]),.op 28 (.call 70 [5,1] [(.t 22),(.t 27)]),.op 29 (.call 106 [5,0,0] [(.t 21),(.t 28),(.i 6)]),.m 10 29]
 (.seq (.q [.m 30 7,.op 31 (.call 94 [5,0] [(.t 30),(.i 10)])]
 (.c 31 (.reg [.m 32 7,.op 33 (.call 107 [5] [(.t 32)]),.m 10 33])))
 (.seq (.draw [.L 34 10 8,.m 35 7,.op 36 (.bslice 1 [(.i 1),(.i 1),(.i 2),(.i 3),(.i 0),(.i 10)]),.op 37 (.call 70 [5,1] [(.t 35),(.t 36)]),.m 38 7,.m 39 7,.op 40 (.call 96 [5,0] [(.t 39),(.i 30)]),.op 41 (.bin .add (.i 1) (.t 40)),.op 42 (.bslice 1 [(.i 31),(.i 40),(.t 41),(.i 0),(.i 65535),(.i 65536)]),.op 43 (.call 70 [5,1] [(.t 38),(.t 42)]),.m 44 9,.m 45 10,.s 100002 10 2 34,.m 3 37,.m 4 43,.m 5 44,.m 6 45] [[],[],[],[1,2],[],[],[5,3],[6],[7],[4,8,6],[],[],[0,9,0],[3,12,0,1,2,3,12],[9,13,0,1,2,3,4,5,6,7,8,9,12,13],[10,14,0,1,2,3,4,5,6,7,8,9,10,12,13,14],[11,15,0,1,2,3,4,5,6,7,8,9,10,11,12,13,14,15]])
 .ret)))))))⟩
theorem r_s_DrawNodePut {Te:TE} (c_s_l1New:C_s_l1New Te) (c_s_l15Any:C_s_l15Any Te) (c_s_l1Name:C_s_l1Name Te) (c_s_l1Once:C_s_l1Once Te) (c_s_l1Text:C_s_l1Text Te) (c_s_l1Int:C_s_l1Int Te) (c_s_l5Text:C_s_l5Text Te) (c_s_l2Bent:C_s_l2Bent Te) (c_s_l1Below:C_s_l1Below Te):∀ (l:List UInt8) (hl:l.length≤2 ^ 31),∃ r0,(∃ (n:NodeV) (who seq:Int) (key s:ByteArray),(n.In (2 ^ 20)∧key.size≤2 ^ 20∧s.size≤2 ^ 20)∧r0=(⟨[.agg (n.enc true),.one (iT who),.one (iT seq),.one (sT key),.one (sT s)],[[slT false 1 uR l]]⟩:Res))∧RunFn Te x_s_DrawNodePut [.one (slT false 1 uR l)] r0:=by
 intro l hl
 refine some_of (Nat.le_of_ble_eq_true rfl) (by rfl) ?_
 simp -implicitDefEqProofs (maxSteps:=1000000) only [x_s_DrawNodePut,go_sem]
 repeat refine ⟨sc,?_⟩
 try exact sf
 obtain ⟨c,hc,ht⟩:=c_s_l1New l hl
 refine C0 (ht) ?_
 obtain ⟨n,d,⟨⟨hn,_⟩,hd⟩,ht⟩:=c_s_l15Any c 10 hc (by decide)
 refine C0 (ht) ?_
 obtain ⟨key,d,⟨hk,hd⟩,ht⟩:=c_s_l1Name d hd
 refine C0 (ht) ?_
 obtain ⟨p,d,hd,ht⟩:=c_s_l1Once d 10 hd
 cases p
 ·obtain ⟨cs,d,⟨_,hd⟩,ht1⟩:=c_s_l1Int d [n.Cs,n.Cs,0] hd (by simp)
  obtain ⟨s,d,⟨hs,hd⟩,ht2⟩:=c_s_l5Text d cs 6 hd (by decide)
  replace hs:s.size≤24:=hs
  obtain ⟨q,d,hd,ht3⟩:=c_s_l1Once d 10 hd
  cases q
  ·obtain ⟨who,d,⟨_,hd⟩,ht4⟩:=c_s_l1Int d [1,1,2,3,0,10] hd (by decide)
   obtain ⟨v,d,⟨_,hd⟩,ht5⟩:=c_s_l1Below d 30 hd
   obtain ⟨seq,d,⟨_,hd⟩,ht6⟩:=c_s_l1Int d [31,40,IntKind.i64.wrap (1 + v),0,65535,65536] hd (by simp)
   refine C0 (ht) ?_
   refine C0 (ht1) ?_
   refine C0 (ht2) ?_
   refine C0 (ht3) ?_
   refine C0 (ht4) ?_
   refine C0 (ht5) ?_
   refine C0 (ht6) ?_
   exact ⟨n,who,seq,key,s,⟨hn,by omega,by omega⟩,rfl⟩
  ·obtain ⟨s2,d,⟨hs2,hd⟩,ht7⟩:=c_s_l2Bent d hd
   obtain ⟨who,d,⟨_,hd⟩,ht4⟩:=c_s_l1Int d [1,1,2,3,0,10] hd (by decide)
   obtain ⟨v,d,⟨_,hd⟩,ht5⟩:=c_s_l1Below d 30 hd
   obtain ⟨seq,d,⟨_,hd⟩,ht6⟩:=c_s_l1Int d [31,40,IntKind.i64.wrap (1 + v),0,65535,65536] hd (by simp)
   refine C0 (ht) ?_
   refine C0 (ht1) ?_
   refine C0 (ht2) ?_
   refine C0 (ht3) ?_
   refine C0 (ht7) ?_
   refine C0 (ht4) ?_
   refine C0 (ht5) ?_
   refine C0 (ht6) ?_
   exact ⟨n,who,seq,key,s2,⟨hn,by omega,by omega⟩,rfl⟩
 ·obtain ⟨key2,d,⟨hk2,hd⟩,ht0⟩:=c_s_l1Text d hd
  obtain ⟨cs,d,⟨_,hd⟩,ht1⟩:=c_s_l1Int d [n.Cs,n.Cs,0] hd (by simp)
  obtain ⟨s,d,⟨hs,hd⟩,ht2⟩:=c_s_l5Text d cs 6 hd (by decide)
  replace hs:s.size≤24:=hs
  obtain ⟨q,d,hd,ht3⟩:=c_s_l1Once d 10 hd
  cases q
  ·obtain ⟨who,d,⟨_,hd⟩,ht4⟩:=c_s_l1Int d [1,1,2,3,0,10] hd (by decide)
   obtain ⟨v,d,⟨_,hd⟩,ht5⟩:=c_s_l1Below d 30 hd
   obtain ⟨seq,d,⟨_,hd⟩,ht6⟩:=c_s_l1Int d [31,40,IntKind.i64.wrap (1 + v),0,65535,65536] hd (by simp)
   refine C0 (ht) ?_
   refine C0 (ht0) ?_
   refine C0 (ht1) ?_
   refine C0 (ht2) ?_
   refine C0 (ht3) ?_
   refine C0 (ht4) ?_
   refine C0 (ht5) ?_
   refine C0 (ht6) ?_
   exact ⟨n,who,seq,key2,s,⟨hn,by omega,by omega⟩,rfl⟩
  ·obtain ⟨s2,d,⟨hs2,hd⟩,ht7⟩:=c_s_l2Bent d hd
   obtain ⟨who,d,⟨_,hd⟩,ht4⟩:=c_s_l1Int d [1,1,2,3,0,10] hd (by decide)
   obtain ⟨v,d,⟨_,hd⟩,ht5⟩:=c_s_l1Below d 30 hd
   obtain ⟨seq,d,⟨_,hd⟩,ht6⟩:=c_s_l1Int d [31,40,IntKind.i64.wrap (1 + v),0,65535,65536] hd (by simp)
   refine C0 (ht) ?_
   refine C0 (ht0) ?_
   refine C0 (ht1) ?_
   refine C0 (ht2) ?_
   refine C0 (ht3) ?_
   refine C0 (ht7) ?_
   refine C0 (ht4) ?_
   refine C0 (ht5) ?_
   refine C0 (ht6) ?_
   exact ⟨n,who,seq,key2,s2,⟨hn,by omega,by omega⟩,rfl⟩
def x_s_DrawNodeDel:FnX:=⟨23,[.cell 2 (some 10),.tmp 3,.tmp 4,.tmp 5],
  .q [.op 2 (.alloc [.nils 1,.nils 2,.i 0,.F,.nils 7,.i 0,.nils 3,.i 0,.i 0,.i 0]),.i 3 0,.i 4 0,.op 5 (.mv (.k (.one (.pv (.string ⟨#[]⟩)))))]
 (.q [.m 12 0,.c 13 32 [12],.m 11 13,.e 14 11 0,.e 15 11 1,.e 16 11 2,.e 17 11 3,.e 18 11 4,.op 6 (.alloc [.nils 1,.nils 2,.i 0,.F,.nils 7,.i 0,.nils 3,.i 0,.i 0,.i 0]),.s 100001 10 6 14,.m 7 15,.m 8 16,.m 9 17,.m 10 18]
 (.q [.L 19 10 6,.m 20 7,.m 21 8,.m 22 9,.s 100002 10 2 19,.m 3 20,.m 4 21,.m 5 22]
 .ret))⟩
theorem r_s_DrawNodeDel {Te:TE} (c_s_DrawNodePut:C_s_DrawNodePut Te):∀ (l:List UInt8) (hl:l.length≤2 ^ 31),∃ r0,(∃ (n:NodeV) (who seq:Int) (key:ByteArray),(n.In (2 ^ 20)∧key.size≤2 ^ 20)∧r0=(⟨[.agg (n.enc true),.one (iT who),.one (iT seq),.one (sT key)],[[slT false 1 uR l]]⟩:Res))∧RunFn Te x_s_DrawNodeDel [.one (slT false 1 uR l)] r0:=by
 intro l hl
 refine some_of (Nat.le_of_ble_eq_true rfl) (by rfl) ?_
 simp -implicitDefEqProofs (maxSteps:=1000000) only [x_s_DrawNodeDel,go_sem]
 repeat refine ⟨sc,?_⟩
 try exact sf
 obtain ⟨n,who,seq,key,s,⟨hn,hk,_⟩,ht⟩:=c_s_DrawNodePut l hl
 refine C0 (ht) ?_
 exact ⟨n,who,seq,key,⟨hn,hk⟩,rfl⟩
def x_s_DrawNodePhase:FnX:=⟨25,[.cell 2 (some 10),.tmp 3],
  .q [.op 2 (.alloc [.nils 1,.nils 2,.i 0,.F,.nils 7,.i 0,.nils 3,.i 0,.i 0,.i 0]),.i 3 0]
 (.q [.m 6 0,.c 7 58 [6],.m 4 7]
 (.q [.m 8 4,.op 9 (.call 92 [5,0] [(.t 8),(.i 8)]),.op 5 (.alloc [.nils 1,.nils 2,.i 0,.F,.nils 7,.i 0,.nils 3,.i 0,.i 0,.i 0]),.s 100001 10 5 9]
 (.seq (.draw [.L 10 10 5,.m 11 4,.f 12 5 0,.f 13 12 4,.f 14 13 1,.l 15 14,.f 16 5 0,.f 17 16 4,.f 18 17 1,.l 19 18,.B 20 .add 19 1,.m 21 4,.op 22 (.call 111 [5] [(.t 21)]),.op 23 (.bslice 1 [(.t 15),(.t 20),(.t 22)]),.op 24 (.call 70 [5,1] [(.t 11),(.t 23)]),.s 100002 10 2 10,.m 3 24] [[],[],[],[2],[3],[4],[],[6],[7],[8],[9],[],[11],[5,10,12],[1,13,12],[0,14,0],[14,15,0,1,2,3,4,5,6,7,8,9,10,11,12,13,14,15]])
 .ret)))⟩
theorem r_s_DrawNodePhase {Te:TE} (c_s_l1New:C_s_l1New Te) (c_s_l15Any:C_s_l15Any Te) (c_s_l14Draw:C_s_l14Draw Te) (c_s_l1Int:C_s_l1Int Te):∀ (l:List UInt8) (hl:l.length≤2 ^ 31),∃ r0,(∃ (n:NodeV) (p:Int),(n.In (2 ^ 20))∧r0=(⟨[.agg (n.enc true),.one (iT p)],[[slT false 1 uR l]]⟩:Res))∧RunFn Te x_s_DrawNodePhase [.one (slT false 1 uR l)] r0:=by
 intro l hl
 refine some_of (Nat.le_of_ble_eq_true rfl) (by rfl) ?_
 simp -implicitDefEqProofs (maxSteps:=1000000) only [x_s_DrawNodePhase,go_sem]
 repeat refine ⟨sc,?_⟩
 try exact sf
 obtain ⟨c,hc,ht⟩:=c_s_l1New l hl
 refine C0 (ht) ?_
 obtain ⟨n,d,⟨⟨hn,_⟩,hd⟩,ht⟩:=c_s_l15Any c 8 hc (by decide)
 refine C0 (ht) ?_
 obtain ⟨u,d,⟨_,hd⟩,ht⟩:=c_s_l14Draw d hd
 refine C0 (ht) ?_
 obtain ⟨p,d,⟨_,hd⟩,ht⟩:=c_s_l1Int d [n.S.T.Phase,IntKind.i64.wrap (n.S.T.Phase + 1),u] hd (by simp)
 refine C0 (ht) ?_
 exact ⟨n,p,hn,rfl⟩
def x_s_l12Draw:FnX:=⟨24,[.cell 4 (some 3)],
  .q [.op 4 (.alloc [.nils 7,.i 0,.nils 3])]
 (.q [.op 7 (.build [.nils 7,.i 0,.nils 3] []),.op 5 (.alloc [.nils 7,.i 0,.nils 3]),.s 100001 3 5 7]
 (.seq (.q [.m 8 0,.m 9 1,.B 10 .add 9 1,.op 11 (.call 96 [5,0] [(.t 8),(.t 10)]),.m 6 11]
 (.block 0 (.loop [0,4,5,6] (.seq (.q [.m 12 6,.B 13 .gtr 12 0]
 (.cond 13 .skip (.exit 0)))
 (.seq (.block 1 (.draw [.L 17 3 5,.m 18 0,.op 19 (.call 316 [5] [(.t 18)]),.c 20 190 [17,19],.m 16 20,.e 21 16 0,.e 22 16 1,.s 100002 3 5 21] [[],[],[1],[0,2,2],[3],[4],[4],[5,3,0,1,2,3,4,5]]))
 (.reg [.m 14 6,.B 15 .sub 14 1,.m 6 15]))))))
 (.norm [4,5] (.q [.L 23 3 5,.s 100003 3 4 23]
 .ret))))⟩
theorem r_s_l12Draw {Te:TE} (c_s_l1Below:C_s_l1Below Te) (c_s_l11Draw:C_s_l11Draw Te) (c_s_Apply:C_s_Apply Te):∀ (c:CurV) (hc:c.ok),∃ r0,(∃ (x:TabV) (d:CurV),(x.ok=true∧d.ok)∧r0=(⟨[.agg (x.enc true)],[d.enc,[iT 4]]⟩:Res))∧RunFn Te x_s_l12Draw [.ptr c.enc,.one (iT 4)] r0:=by
 intro c hc
 refine some_of (Nat.le_of_ble_eq_true rfl) (by rfl) ?_
 have w1:IntKind.i64.wrap (4 + 1)=5:=rfl
 simp -implicitDefEqProofs (maxSteps:=1000000) only [x_s_l12Draw,go_sem,w1]
 repeat refine ⟨sc,?_⟩
 try exact sf
 obtain ⟨k,d0,⟨⟨hk0,hk1,_⟩,hd0⟩,ht⟩:=c_s_l1Below c 5 hc
 have hk5:=hk1 (by decide)
 obtain ⟨K,rfl⟩:∃ K:Nat,k=K:=⟨k.toNat,by omega⟩
 refine C0 (ht) ?_
 refine loop_of (σ:=Nat×TabV×Bool×List Go.X.T×CurV) (fun x=>cond x.2.2.1 ⟨[(0,.bp 0 0),(4,.bp 4 0),(5,.bp 5 0),(6,.one (.pv (.int .i64 x.1)))],[(0,[.ro 1 (x.2.2.2.2.b.map uR),.pv (.int .i64 x.2.2.2.2.i),.pv (.int .i64 x.2.2.2.2.h)]),(4,[.nils 7,.pv (.int .i64 0),.nils 3]),(5,[.nils 7,.pv (.int .i64 0),.nils 3])],[(0,c.enc),(1,[iT 4])]⟩ ⟨[(0,.bp 0 0),(4,.bp 4 0),(5,.bp 5 0),(6,.one (.pv (.int .i64 x.1)))],[(0,[.ro 1 (x.2.2.2.2.b.map uR),.pv (.int .i64 x.2.2.2.2.i),.pv (.int .i64 x.2.2.2.2.h)]),(4,[.nils 7,.pv (.int .i64 0),.nils 3]),(5,[.rf 26 0 [] 7 0 x.2.1.Rows.length,.pv (.int .i64 x.2.1.Phase),.rf 26 2 [] 3 0 x.2.1.Marks.length])],[(0,c.enc),(1,[iT 4]),(26,slT true 7 (RowV.enc true) x.2.1.Rows::iT x.2.1.Phase::slT true 3 MarkV.row x.2.1.Marks::x.2.2.2.1)]⟩) (fun x=>x.1≤K∧x.2.1.ok=true∧(x.2.2.1=true→x.2.1=TabV.zero)∧x.2.2.2.2.ok) (fun x=>x.1) (K,TabV.zero,true,[],d0) ?_ ⟨Nat.le_refl _,rfl,fun _=>rfl,hd0⟩ ?_
 ·simp -implicitDefEqProofs (maxSteps:=1000000) only [go_sem]
  try rfl
 ·rintro ⟨i,t,b,E,d⟩ ⟨hi,hx,hb,hd⟩
  simp only at hi hx hb hd
  have hT:=TabV.ok_in hx
  cases q:decide ((i:Int) > 0)
  ·cases b
   ·refine G1 q ?_
    exact ⟨t,d,⟨hx,hd⟩,rfl⟩
   ·refine G1 q ?_
    exact ⟨TabV.zero,d,⟨rfl,hd⟩,rfl⟩
  ·have q':=q
   simp only [decide_eq_true_eq] at q'
   have w2:IntKind.i64.wrap ((i:Int) - 1)=((i - 1:Nat):Int):=by rw [IntWalk.i64_in _ (by omega)]; omega
   obtain ⟨r,d,⟨hr,hd⟩,ht⟩:=c_s_l11Draw d hd
   cases b
   ·refine G1 q ?_
    refine C0 (ht) ?_
    refine C1 (c_s_Apply t r hT hr) w2 ?_
    exact ⟨(i - 1,(t.apply r).1,false,[bT (t.apply r).2],d),rfl,⟨by simp only; omega,apply_ok2 r hx,fun h=>Bool.noConfusion h,hd⟩,by simp only; omega⟩
   ·have e:=hb rfl
    subst e
    refine G1 q ?_
    refine C0 (ht) ?_
    refine C1 (c_s_Apply TabV.zero r hT hr) w2 ?_
    exact ⟨(i - 1,(TabV.zero.apply r).1,false,[bT (TabV.zero.apply r).2],d),rfl,⟨by simp only; omega,apply_ok2 r hx,fun h=>Bool.noConfusion h,hd⟩,by simp only; omega⟩
def x_s_l13Draw:FnX:=⟨20,[.cell 4 (some 9)],
  .q [.op 4 (.alloc [.nils 1,.nils 2,.i 0,.F,.nils 7,.i 0,.nils 3,.i 0,.i 0])]
 (.q [.c 7 122 [],.op 5 (.alloc [.nils 1,.nils 2,.i 0,.F,.nils 7,.i 0,.nils 3,.i 0,.i 0]),.s 100001 9 5 7]
 (.seq (.q [.m 8 0,.m 9 1,.B 10 .add 9 1,.op 11 (.call 96 [5,0] [(.t 8),(.t 10)]),.m 6 11]
 (.block 0 (.loop [0,4,5,6] (.seq (.q [.m 12 6,.B 13 .gtr 12 0]
 (.cond 13 .skip (.exit 0)))
 (.seq (.block 1 (.reg [.m 16 0,.op 17 (.call 316 [5] [(.t 16)]),.op 18 (.call 103 [11,0] [(.t 5),(.t 17)])]))
 (.reg [.m 14 6,.B 15 .sub 14 1,.m 6 15]))))))
 (.norm [4,5] (.q [.L 19 9 5,.s 100002 9 4 19]
 .ret))))⟩
theorem r_s_l13Draw {Te:TE} (c_s_Format:C_s_Format Te) (c_s_l1Below:C_s_l1Below Te) (c_s_l11Draw:C_s_l11Draw Te) (c_s_l13Add:C_s_l13Add Te):∀ (c:CurV) (hc:c.ok),∃ r0,(∃ (s:StoreV) (d:CurV),(s.still 5∧d.ok)∧r0=(⟨[.agg (s.enc true)],[d.enc,[iT 4]]⟩:Res))∧RunFn Te x_s_l13Draw [.ptr c.enc,.one (iT 4)] r0:=by
 intro c hc
 refine some_of (Nat.le_of_ble_eq_true rfl) (by rfl) ?_
 have w1:IntKind.i64.wrap (4 + 1)=5:=rfl
 simp -implicitDefEqProofs (maxSteps:=1000000) only [x_s_l13Draw,go_sem]
 repeat refine ⟨sc,?_⟩
 try exact sf
 refine C1 (c_s_Format) w1 ?_
 obtain ⟨k,d0,⟨⟨hk0,hk1,_⟩,hd0⟩,ht⟩:=c_s_l1Below c 5 hc
 have hk5:=hk1 (by decide)
 obtain ⟨K,rfl⟩:∃ K:Nat,k=K:=⟨k.toNat,by omega⟩
 have hf:=fmt_still
 generalize fmt=s0 at hf
 refine C0 (ht) ?_
 refine loop_of (σ:=Nat×StoreV×Bool×Bool×CurV) (fun x=>cond x.2.2.1 ⟨[(0,.bp 0 0),(4,.bp 4 0),(5,.bp 5 0),(6,.one (.pv (.int .i64 x.1)))],[(0,[.ro 1 (x.2.2.2.2.b.map uR),.pv (.int .i64 x.2.2.2.2.i),.pv (.int .i64 x.2.2.2.2.h)]),(4,[.nils 1,.nils 2,.pv (.int .i64 0),.pv (.bool false),.nils 7,.pv (.int .i64 0),.nils 3,.pv (.int .i64 0),.pv (.int .i64 0)]),(5,[.rf 22 0 [] 1 0 x.2.1.D.Secs.length,.rf 22 1 [] 2 0 x.2.1.D.Cache.length,.pv (.int .i64 x.2.1.D.Fuse),.pv (.bool x.2.1.D.Down),.rf 22 4 [] 7 0 x.2.1.T.Rows.length,.pv (.int .i64 x.2.1.T.Phase),.rf 22 6 [] 3 0 x.2.1.T.Marks.length,.pv (.int .i64 x.2.1.Gen),.pv (.int .i64 x.2.1.Place)])],[(0,c.enc),(1,[iT 4]),(22,x.2.1.enc true)]⟩ ⟨[(0,.bp 0 0),(4,.bp 4 0),(5,.bp 5 0),(6,.one (.pv (.int .i64 x.1)))],[(0,[.ro 1 (x.2.2.2.2.b.map uR),.pv (.int .i64 x.2.2.2.2.i),.pv (.int .i64 x.2.2.2.2.h)]),(4,[.nils 1,.nils 2,.pv (.int .i64 0),.pv (.bool false),.nils 7,.pv (.int .i64 0),.nils 3,.pv (.int .i64 0),.pv (.int .i64 0)]),(5,[.rf 22 1 [] 1 0 x.2.1.D.Secs.length,.rf 22 2 [] 2 0 x.2.1.D.Cache.length,.pv (.int .i64 x.2.1.D.Fuse),.pv (.bool x.2.1.D.Down),.rf 22 5 [] 7 0 x.2.1.T.Rows.length,.pv (.int .i64 x.2.1.T.Phase),.rf 22 7 [] 3 0 x.2.1.T.Marks.length,.pv (.int .i64 x.2.1.Gen),.pv (.int .i64 x.2.1.Place)])],[(0,c.enc),(1,[iT 4]),(22,bT x.2.2.2.1::x.2.1.enc true)]⟩) (fun x=>x.1≤K∧x.2.1.still (1 + ((K:Int) - x.1))∧x.2.2.2.2.ok) (fun x=>x.1) (K,s0,true,true,d0) ?_ ⟨Nat.le_refl _,hf.mono (by simp only; omega),hd0⟩ ?_
 ·simp -implicitDefEqProofs (maxSteps:=1000000) only [go_sem]
  try rfl
 ·rintro ⟨i,s,b,b2,d⟩ ⟨hi,hs,hd⟩
  simp only at hi hs hd
  cases q:decide ((i:Int) > 0)
  ·cases b
   ·refine G1 q ?_
    exact ⟨s,d,⟨hs.mono (by omega),hd⟩,rfl⟩
   ·refine G1 q ?_
    exact ⟨s,d,⟨hs.mono (by omega),hd⟩,rfl⟩
  ·have q':=q
   simp only [decide_eq_true_eq] at q'
   have w2:IntKind.i64.wrap ((i:Int) - 1)=((i - 1:Nat):Int):=by rw [IntWalk.i64_in _ (by omega)]; omega
   obtain ⟨r,d2,⟨hr,hd2⟩,ht⟩:=c_s_l11Draw d hd
   have tA:=c_s_l13Add s r hs.1 hs.2.1 (StoreV.ok_in hs.1).2 hr
   cases b
   ·refine G1 q ?_
    refine C0 (ht) ?_
    refine C1 (tA) w2 ?_
    exact ⟨(i - 1,(s.add r).1,false,(s.add r).2,d2),rfl,⟨by simp only; omega,(add_still r hs (by omega)).mono (by simp only; omega),hd2⟩,by simp only; omega⟩
   ·refine G1 q ?_
    refine C0 (ht) ?_
    refine C1 (tA) w2 ?_
    exact ⟨(i - 1,(s.add r).1,false,(s.add r).2,d2),rfl,⟨by simp only; omega,(add_still r hs (by omega)).mono (by simp only; omega),hd2⟩,by simp only; omega⟩
def x_l_sameCell:FnX:=⟨19,[.tmp 4],
  .q [.v 2 0,.v 3 1,.F 4]
 (.q [.f 5 2 0,.l 6 5,.f 7 3 0,.l 8 7,.b 9 .eql 6 8,.m 10 9,.y 10 (.f 11 2 1),.y 10 (.l 12 11),.y 10 (.op 13 (.conv .b2s (.t 12))),.y 10 (.f 14 3 1),.y 10 (.l 15 14),.y 10 (.op 16 (.conv .b2s (.t 15))),.y 10 (.b 17 .eql 13 16),.a 18 10 17,.m 4 18]
 .ret)⟩
theorem r_l_sameCell {Te:TE}:C_l_sameCell (RF Te x_l_sameCell):=by
 intro a
 refine run0 ?_
 have eI:∀ z:Int,(z==z)=true:=fun z=>beq_self_eq_true z
 have eL:∀ z:List UInt8,(z==z)=true:=fun z=>beq_self_eq_true z
 have ea:=areBytes_uR a.B
 have fa:=bytesOf_uR a.B
 simp -implicitDefEqProofs (maxSteps:=1000000) only [x_l_sameCell,go_sem,eI,ea,fa,eL]
 repeat refine ⟨sc,?_⟩
 try exact sf
def x_l_sameRow:FnX:=⟨38,[.tmp 4],
  .q [.v 2 0,.v 3 1,.F 4]
 (.q [.f 5 2 0,.l 6 5,.f 7 3 0,.l 8 7,.b 9 .eql 6 8,.m 10 9,.y 10 (.f 11 2 1),.y 10 (.L 12 2 11),.y 10 (.f 13 3 1),.y 10 (.L 14 2 13),.y 10 (.c 15 302 [12,14]),.a 16 10 15,.m 17 16,.y 17 (.f 18 2 3),.y 17 (.L 19 2 18),.y 17 (.f 20 3 3),.y 17 (.L 21 2 20),.y 17 (.c 22 302 [19,21]),.a 23 17 22,.m 24 23,.y 24 (.f 25 2 5),.y 24 (.l 26 25),.y 24 (.f 27 3 5),.y 24 (.l 28 27),.y 24 (.b 29 .eql 26 28),.a 30 24 29,.m 31 30,.y 31 (.f 32 2 6),.y 31 (.l 33 32),.y 31 (.f 34 3 6),.y 31 (.l 35 34),.y 31 (.op 36 (.beq false (.t 33) (.t 35))),.a 37 31 36,.m 4 37]
 .ret)⟩
theorem r_l_sameRow {Te:TE} (c_l_sameCell:C_l_sameCell Te):C_l_sameRow (RF Te x_l_sameRow):=by
 intro a
 have eI:∀ z:Int,(z==z)=true:=fun z=>beq_self_eq_true z
 have eB:∀ z:Bool,(z==z)=true:=fun z=>beq_self_eq_true z
 have eL:∀ z:List UInt8,(z==z)=true:=fun z=>beq_self_eq_true z
 refine X1 x_l_sameRow.eq_1 eL ?_
 refine C0 (c_l_sameCell a.Old) ?_
 exact D2 (c_l_sameCell a.New) eI eB
def x_l_sameDev:FnX:=⟨94,[.tmp 4],
  .q [.v 2 0,.v 3 1,.F 4]
 (.seq (.q [.f 7 2 0,.l 8 7,.n 9 8,.f 10 3 0,.l 11 10,.n 12 11,.b 13 .neq 9 12,.m 14 13,.z 14 (.f 15 2 1),.z 14 (.l 16 15),.z 14 (.n 17 16),.z 14 (.f 18 3 1),.z 14 (.l 19 18),.z 14 (.n 20 19),.z 14 (.b 21 .neq 17 20),.r 22 14 21,.m 23 22,.z 23 (.f 24 2 2),.z 23 (.l 25 24),.z 23 (.f 26 3 2),.z 23 (.l 27 26),.z 23 (.b 28 .neq 25 27),.r 29 23 28,.m 30 29,.z 30 (.f 31 2 3),.z 30 (.l 32 31),.z 30 (.f 33 3 3),.z 30 (.l 34 33),.z 30 (.op 35 (.beq true (.t 32) (.t 34))),.r 36 30 35]
 (.c 36 (.q [.F 4]
 .ret)))
 (.seq (.q [.i 5 0]
 (.block 0 (.loop [2,3,5] (.seq (.q [.m 37 5,.f 38 2 0,.l 39 38,.n 40 39,.b 41 .lss 37 40]
 (.cond 41 .skip (.exit 0)))
 (.seq (.block 1 (.seq (.draw [.f 44 2 0,.l 45 44,.m 46 5,.x 47 1 45 46,.l 48 47,.op 49 (.conv .b2s (.t 48)),.f 50 3 0,.l 51 50,.m 52 5,.x 53 1 51 52,.l 54 53,.op 55 (.conv .b2s (.t 54)),.b 56 .neq 49 55] [[],[0],[],[1,2],[3],[4],[],[6],[],[7,8],[9],[10],[5,11]])
 (.c 56 (.q [.F 4]
 .ret))))
 (.reg [.m 42 5,.B 43 .add 42 1,.m 5 43]))))))
 (.norm [2,3] (.seq (.q [.i 6 0]
 (.block 2 (.loop [2,3,6] (.seq (.q [.m 57 6,.f 58 2 1,.l 59 58,.n 60 59,.b 61 .lss 57 60]
 (.cond 61 .skip (.exit 2)))
 (.seq (.block 3 (.seq (.draw [.f 64 2 1,.l 65 64,.m 66 6,.x 67 2 65 66,.f 68 67 0,.l 69 68,.f 70 3 1,.l 71 70,.m 72 6,.x 73 2 71 72,.f 74 73 0,.l 75 74,.b 76 .neq 69 75,.m 77 76,.z 77 (.f 78 2 1),.z 77 (.l 79 78),.z 77 (.m 80 6),.z 77 (.x 81 2 79 80),.z 77 (.f 82 81 1),.z 77 (.l 83 82),.z 77 (.op 84 (.conv .b2s (.t 83))),.z 77 (.f 85 3 1),.z 77 (.l 86 85),.z 77 (.m 87 6),.z 77 (.x 88 2 86 87),.z 77 (.f 89 88 1),.z 77 (.l 90 89),.z 77 (.op 91 (.conv .b2s (.t 90))),.z 77 (.b 92 .neq 84 91),.r 93 77 92] [[],[0],[],[1,2],[3],[4],[],[6],[],[7,8],[9],[10],[5,11],[12],[13],[14,13],[13],[15,16,13],[17,13],[18,13],[19,13],[13],[21,13],[13],[22,23,13],[24,13],[25,13],[26,13],[20,27,13],[13,28]])
 (.c 93 (.q [.F 4]
 .ret))))
 (.reg [.m 62 6,.B 63 .add 62 1,.m 6 63]))))))
 (.norm [] (.q [.T 4]
 .ret))))))⟩
theorem r_l_sameDev {Te:TE}:C_l_sameDev (RF Te x_l_sameDev):=by
 intro d h
 obtain ⟨⟨hS,_⟩,hC,_⟩:=h
 have nI:∀ z:Int,(z != z)=false:=fun z=>bne_self_eq_false z
 have nB:∀ z:Bool,(z != z)=false:=fun z=>bne_self_eq_false z
 have eL:∀ z:List UInt8,(z==z)=true:=fun z=>beq_self_eq_true z
 refine X2 x_l_sameDev.eq_1 nI nB ?_
 refine loop_of (σ:=Nat) (fun i=>⟨[(2,.bp 2 0),(3,.bp 3 0),(5,.one (.pv (.int .i64 i)))],[(2,[.ro 1 (d.Secs.map (fun y=>[slT false 1 uR y])),.ro 2 (d.Cache.map (WrV.enc false)),.pv (.int .i64 d.Fuse),.pv (.bool d.Down)]),(3,[.ro 1 (d.Secs.map (fun y=>[slT false 1 uR y])),.ro 2 (d.Cache.map (WrV.enc false)),.pv (.int .i64 d.Fuse),.pv (.bool d.Down)])],[(0,d.enc false),(1,d.enc false)]⟩) (fun i=>i≤d.Secs.length) (fun i=>d.Secs.length - i) 0 ?_ (Nat.zero_le _) ?_
 ·simp -implicitDefEqProofs (maxSteps:=1000000) only [go_sem]
  try rfl
 ·rintro i hi
  cases q:decide ((i:Int) < (d.Secs.length:Int))
  ·refine G1 q ?_
   refine loop_of (σ:=Nat) (fun i=>⟨[(2,.bp 2 0),(3,.bp 3 0),(6,.one (.pv (.int .i64 i)))],[(2,[.ro 1 (d.Secs.map (fun y=>[slT false 1 uR y])),.ro 2 (d.Cache.map (WrV.enc false)),.pv (.int .i64 d.Fuse),.pv (.bool d.Down)]),(3,[.ro 1 (d.Secs.map (fun y=>[slT false 1 uR y])),.ro 2 (d.Cache.map (WrV.enc false)),.pv (.int .i64 d.Fuse),.pv (.bool d.Down)])],[(0,d.enc false),(1,d.enc false)]⟩) (fun i=>i≤d.Cache.length) (fun i=>d.Cache.length - i) 0 ?_ (Nat.zero_le _) ?_
   ·simp -implicitDefEqProofs (maxSteps:=1000000) only [go_sem]
    try rfl
   ·rintro i hi
    cases q:decide ((i:Int) < (d.Cache.length:Int))
    ·exact F1 q
    ·have k1:i < d.Cache.length:=by simp only [decide_eq_true_eq] at q; omega
     have ea:=areBytes_uR d.Cache[i].B
     have fa:=bytesOf_uR d.Cache[i].B
     have k2:=List.getElem?_eq_getElem k1
     try simp -implicitDefEqProofs (maxSteps:=1000000) only [go_sem,q,k2,nI,ea,fa,eL]
     repeat refine ⟨sc,?_⟩
     try exact sf
     exact ⟨i + 1,by rw [IntWalk.i64_in _ (by omega)]; rfl,k1,by omega⟩
  ·have k1:i < d.Secs.length:=by simp only [decide_eq_true_eq] at q; omega
   have ea:=areBytes_uR d.Secs[i]
   have fa:=bytesOf_uR d.Secs[i]
   have k2:=List.getElem?_eq_getElem k1
   try simp -implicitDefEqProofs (maxSteps:=1000000) only [go_sem,q,k2,ea,fa,eL]
   repeat refine ⟨sc,?_⟩
   try exact sf
   exact ⟨i + 1,by rw [IntWalk.i64_in _ (by omega)]; rfl,k1,by omega⟩
def x_i_sectorOf:FnX:=⟨11,[.tmp 4],
  .q [.i 4 0]
 (.q [.m 5 0,.B 6 .rem 5 2,.op 7 (.bin .mul (.i 30) (.t 6)),.op 8 (.bin .add (.i 2) (.t 7)),.m 9 1,.b 10 .add 8 9,.m 4 10]
 .ret)⟩
theorem r_i_sectorOf {Te:TE}:C_i_sectorOf (RF Te x_i_sectorOf):=by
 intro gen place
 refine X0 x_i_sectorOf.eq_1 ?_
 try rfl
def x_s_l13At:FnX:=⟨11,[.tmp 4],
  .q [.i 4 0]
 (.q [.m 5 0,.B 6 .rem 5 2,.op 7 (.bin .mul (.i 30) (.t 6)),.op 8 (.bin .add (.i 2) (.t 7)),.m 9 1,.b 10 .add 8 9,.m 4 10]
 .ret)⟩
theorem r_s_l13At {Te:TE}:C_s_l13At (RF Te x_s_l13At):=by
 intro gen place
 refine X0 x_s_l13At.eq_1 ?_
 try rfl
def x_i_laid:FnX:=⟨38,[.cell 6 (some 4)],
  .q [.v 3 0,.op 6 (.alloc [.nils 1,.nils 2,.i 0,.F])]
 (.seq (.q [.m 9 2,.n 10 9,.i 11 0]
 (.block 0 (.loop [1,2,3,6,9,10,11] (.q [.b 12 .lss 11 10]
 (.seq (.cond 12 .skip (.exit 0))
 (.seq (.block 1 (.q [.m 13 11,.x 14 13 9 11,.L 15 13 14,.op 8 (.alloc [.i 0,.e,.i 0,.nils 1,.i 0,.nils 1,.i 0,.F,.e,.i 0,.i 0,.i 0,.i 0]),.m 7 13,.s 100001 13 8 15]
 (.draw [.L 16 4 3,.m 17 1,.m 18 7,.c 19 258 [17,18],.m 20 1,.m 21 7,.L 22 13 8,.c 23 259 [20,21,22],.c 24 257 [16,19,23],.s 100002 4 3 24] [[],[],[],[1,2],[],[],[],[4,5,6,3],[0,3,7,7],[8,8,0,1,2,3,4,5,6,7,8]])))
 (.reg [.B 25 .add 11 1,.m 11 25])))))))
 (.norm [1,2,3,6] (.q [.L 26 4 3,.c 27 260 [26],.s 100003 4 3 27]
 (.seq (.draw [.L 28 4 3,.m 29 1,.B 30 .rem 29 2,.m 31 1,.m 32 2,.n 33 32,.c 34 293 [31,33],.c 35 257 [28,30,34],.s 100004 4 3 35] [[],[],[1],[],[],[4],[3,5],[0,2,6,6],[7,7,0,1,2,3,4,5,6,7]])
 (.q [.L 36 4 3,.c 37 260 [36],.s 100005 4 6 37]
 .ret)))))⟩
theorem r_i_laid {Te:TE} (c_i_sectorOf:C_i_sectorOf Te) (c_i_PutRec:C_i_PutRec Te) (c_i_WriteSec:C_i_WriteSec Te) (c_i_FlushDev:C_i_FlushDev Te) (c_i_HeadOf:C_i_HeadOf Te):C_i_laid (RF Te x_i_laid):=by
 intro d gen recs hd hr
 have hrl:=hr.1
 refine X0 x_i_laid.eq_1 ?_
 refine loop_of (σ:=Bool×Nat×DevV) (fun x=>cond x.1 (⟨[(1,.one (.pv (.int .i64 gen))),(2,.one (.ro 13 (recs.map (RecV.enc false)))),(3,.bp 3 0),(6,.bp 6 0),(9,.one (.ro 13 (recs.map (RecV.enc false)))),(10,.one (.pv (.int .i64 recs.length))),(11,.one (.pv (.int .i64 x.2.1)))],[(3,[.rf 41 0 [] 1 0 x.2.2.Secs.length,.rf 41 1 [] 2 0 x.2.2.Cache.length,.pv (.int .i64 x.2.2.Fuse),.pv (.bool x.2.2.Down)]),(6,[.nils 1,.nils 2,.pv (.int .i64 0),.pv (.bool false)])],[(0,d.enc false),(1,[iT gen]),(2,[slT false 13 (RecV.enc false) recs]),(41,x.2.2.enc true)]⟩) (⟨[(1,.one (.pv (.int .i64 gen))),(2,.one (.ro 13 (recs.map (RecV.enc false)))),(3,.bp 3 0),(6,.bp 6 0),(9,.one (.ro 13 (recs.map (RecV.enc false)))),(10,.one (.pv (.int .i64 recs.length))),(11,.one (.pv (.int .i64 x.2.1)))],[(3,[.ro 1 (x.2.2.Secs.map (secR false)),.ro 2 (x.2.2.Cache.map (WrV.enc false)),.pv (.int .i64 x.2.2.Fuse),.pv (.bool x.2.2.Down)]),(6,[.nils 1,.nils 2,.pv (.int .i64 0),.pv (.bool false)])],[(0,d.enc false),(1,[iT gen]),(2,[slT false 13 (RecV.enc false) recs])]⟩)) (fun x=>x.2.1≤recs.length∧x.2.2=layN gen recs d x.2.1∧x.2.2.ok=true∧(x.1=false→x.2.1=0)) (fun x=>recs.length - x.2.1) (false,0,d) ?_ ⟨Nat.zero_le _,rfl,hd,fun _=>rfl⟩ ?_
 ·simp -implicitDefEqProofs (maxSteps:=1000000) only [go_sem]
  try rfl
 ·rintro ⟨b,i,D⟩ ⟨hi,hD,hk,hb⟩
  simp only at hi hD hk hb
  cases b
  ·cases q:decide ((i:Int) < (recs.length:Int))
   ·skip
    have k0:i=recs.length:=by simp only [decide_eq_false_iff_not] at q; omega
    have e:((D.flush).write (gen.tmod 2) (headOf gen recs.length)).flush=layDev gen recs d:=by rw [hD,k0]; rfl
    have hh:=headOf_len gen recs.length
    have f1:=flush_ok hk
    have f2:=write_ok f1 (gen.tmod 2) (headOf gen recs.length)
    refine G1 q ?_
    refine C0 (c_i_FlushDev D hk) ?_
    refine C0 (c_i_HeadOf _ _) ?_
    refine .of (c_i_WriteSec D.flush _ _ f1 (by omega)) ?_
    try simp -implicitDefEqProofs (maxSteps:=1000000) only [go_sem,take_all]
    repeat refine ⟨sc,?_⟩
    try exact sf
    refine .of (c_i_FlushDev _ f2) ?_
    try simp -implicitDefEqProofs (maxSteps:=1000000) only [go_sem,take_all,e,DevV.enc]
    repeat refine ⟨sc,?_⟩
    try exact sf
    try rfl
   ·skip
    have k1:i < recs.length:=by simp only [decide_eq_true_eq] at q; omega
    have hp:=putRec_len gen i recs[i]
    have hin:=hr.2 _ (List.getElem_mem k1)
    have es:=layN_step gen d k1
    rw [← hD] at es
    refine G2 q (List.getElem?_eq_getElem k1) ?_
    refine C0 (c_i_sectorOf _ _) ?_
    refine C0 (c_i_PutRec _ _ recs[i] hin) ?_
    refine .of (c_i_WriteSec D _ _ hk (by omega)) ?_
    try simp -implicitDefEqProofs (maxSteps:=1000000) only [go_sem,take_all]
    repeat refine ⟨sc,?_⟩
    try exact sf
    refine ⟨(true,i + 1,D.write (secOf gen i) (putRec gen i recs[i])),?_,⟨k1,es,write_ok hk _ _,fun h=>by cases h⟩,by simp only; omega⟩
    rw [IntWalk.i64_in _ (by omega)]
    rfl
  ·cases q:decide ((i:Int) < (recs.length:Int))
   ·skip
    have k0:i=recs.length:=by simp only [decide_eq_false_iff_not] at q; omega
    have e:((D.flush).write (gen.tmod 2) (headOf gen recs.length)).flush=layDev gen recs d:=by rw [hD,k0]; rfl
    have hh:=headOf_len gen recs.length
    have f1:=flush_ok hk
    have f2:=write_ok f1 (gen.tmod 2) (headOf gen recs.length)
    refine G1 q ?_
    refine C0 (c_i_FlushDev D hk) ?_
    refine C0 (c_i_HeadOf _ _) ?_
    refine .of (c_i_WriteSec D.flush _ _ f1 (by omega)) ?_
    try simp -implicitDefEqProofs (maxSteps:=1000000) only [go_sem,take_all]
    repeat refine ⟨sc,?_⟩
    try exact sf
    refine .of (c_i_FlushDev _ f2) ?_
    try simp -implicitDefEqProofs (maxSteps:=1000000) only [go_sem,take_all,e,DevV.enc]
    repeat refine ⟨sc,?_⟩
    try exact sf
    try rfl
   ·skip
    have k1:i < recs.length:=by simp only [decide_eq_true_eq] at q; omega
    have hp:=putRec_len gen i recs[i]
    have hin:=hr.2 _ (List.getElem_mem k1)
    have es:=layN_step gen d k1
    rw [← hD] at es
    refine G2 q (List.getElem?_eq_getElem k1) ?_
    refine C0 (c_i_sectorOf _ _) ?_
    refine C0 (c_i_PutRec _ _ recs[i] hin) ?_
    refine .of (c_i_WriteSec D _ _ hk (by omega)) ?_
    try simp -implicitDefEqProofs (maxSteps:=1000000) only [go_sem,take_all]
    repeat refine ⟨sc,?_⟩
    try exact sf
    refine ⟨(true,i + 1,D.write (secOf gen i) (putRec gen i recs[i])),?_,⟨k1,es,write_ok hk _ _,fun h=>by cases h⟩,by simp only; omega⟩
    rw [IntWalk.i64_in _ (by omega)]
    rfl
def x_s_l1Bend:FnX:=⟨39,[.tmp 4],
  .q [.op 4 (.mv (.k (.one (.nils 1))))]
 (.q [.op 6 (.bslice 1 []),.m 7 1,.op 8 (.app 1 1 (.t 6) (.t 7)),.m 5 8]
 (.seq (.q [.m 9 0,.op 10 (.call 96 [5,0] [(.t 9),(.i 5)])]
 (.block 0 (.q [.B 12 .eql 10 0,.m 11 12]
 (.cond 11 (.q [.m 13 5,.m 14 0,.m 15 5,.n 16 15,.B 17 .add 16 1,.op 18 (.call 96 [5,0] [(.t 14),(.t 17)]),.op 19 (.slice 1 (.t 13) none (some (.t 18))),.m 4 19]
 .ret) (.q [.B 21 .eql 10 1,.m 20 21]
 (.c 20 (.q [.m 22 5,.n 23 22,.B 24 .gtr 23 0]
 (.c 24 (.draw [.m 25 5,.m 26 0,.m 27 5,.n 28 27,.op 29 (.call 96 [5,0] [(.t 26),(.t 28)]),.x 30 1 25 29,.l 31 30,.m 32 0,.op 33 (.call 96 [5,0] [(.t 32),(.i 255)]),.op 34 (.bin .add (.i 1) (.t 33)),.op 35 (.conv (.int .u8) (.t 34)),.b 36 .xor 31 35,.x 37 1 25 29,.s 100001 1 37 36] [[],[],[],[2],[1,3],[0,4],[5],[],[7,4],[8],[9],[6,10],[0,4,0,1,2,3,4,5,6,7,8,9,10,11],[12,11,8,0,1,2,3,4,5,6,7,8,9,10,11]])))))))))
 (.q [.m 38 5,.m 4 38]
 .ret)))⟩
theorem xor_u8b (a:UInt8) {w:Int} (h0:0≤w) (h1:w≤255):xorK .u8 (a.toNat:Int) (IntKind.u8.wrap w)=((a ^^^ mkU w).toNat:Int):=by
 obtain ⟨n,rfl⟩:∃ n:Nat,w=n:=⟨w.toNat,by omega⟩
 have hn:n < 256:=by omega
 have hw:IntKind.u8.wrap (n:Int)=n:=by rw [IntKind.wrap_u8]; omega
 rw [hw,xorK_def]
 show IntKind.u8.wrap ((BitVec.ofInt 8 (a.toNat:Int) ^^^ BitVec.ofInt 8 (n:Int)).toNat)=_
 have ha:=a.toNat_lt
 have e1:(BitVec.ofInt 8 (a.toNat:Int)).toNat=a.toNat:=by rw [BitVec.toNat_ofInt]; omega
 have e2:(BitVec.ofInt 8 (n:Int)).toNat=n:=by rw [BitVec.toNat_ofInt]; omega
 have e3:(mkU (n:Int)).toNat=n:=by rw [mkU_toNat]; omega
 have hx:a.toNat ^^^ n < 256:=Nat.xor_lt_two_pow (n:=8) ha hn
 rw [BitVec.toNat_xor,e1,e2,UInt8.toNat_xor,e3,IntKind.wrap_u8]
 omega
theorem set_u8b {b:List UInt8} {i:Nat} {a W:UInt8}:(List.map uR b).set i (setCells [uT a] 0 [uT W])=List.map uR (b.set i W):=by
 rw [List.map_set]
 rfl
theorem r_s_l1Bend {Te:TE} (c_s_l1Below:C_s_l1Below Te):∀ (c:CurV) (b:List UInt8) (hc:c.ok) (hb:b.length≤2 ^ 20),∃ r0,(∃ (r:List UInt8) (d:CurV),(r.length≤b.length∧d.ok)∧r0=(⟨[.one (slT true 1 uR r)],[d.enc,[slT true 1 uR b]]⟩:Res))∧RunFn Te x_s_l1Bend [.ptr c.enc,.one (slT true 1 uR b)] r0:=by
 intro c b hc hb
 refine some_of (Nat.le_of_ble_eq_true rfl) (by rfl) ?_
 obtain ⟨k,d0,⟨hk,hd0⟩,ht⟩:=c_s_l1Below c 5 hc
 have hk5:=hk.2.1 (by decide)
 have wl:IntKind.i64.wrap ((b.length:Int) + 1)=(b.length:Int) + 1:=IntWalk.i64_in _ (by omega)
 by_cases q0:k=0
 ·subst q0
  obtain ⟨u,d1,⟨hu,hd1⟩,ht1⟩:=c_s_l1Below d0 ((b.length:Int) + 1) hd0
  have hu1:=hu.2.1 (by omega)
  simp -implicitDefEqProofs (maxSteps:=1000000) only [x_s_l1Bend,go_sem]
  repeat refine ⟨sc,?_⟩
  try exact sf
  refine C1 (ht) wl ?_
  refine C0 (ht1) ?_
  have et:List.take (u.toNat - 0) (List.map uR b)=List.map uR (b.take u.toNat):=by rw [Nat.sub_zero,← List.map_take]
  exact ⟨b.take u.toNat,d1,⟨by rw [List.length_take]; omega,hd1⟩,by rw [et]⟩
 by_cases q1:k=1
 ·subst q1
  cases q:decide ((b.length:Int) > 0)
  ·simp -implicitDefEqProofs (maxSteps:=1000000) only [x_s_l1Bend,go_sem]
   repeat refine ⟨sc,?_⟩
   try exact sf
   refine C1 (ht) q ?_
   exact ⟨b,d0,⟨Nat.le_refl _,hd0⟩,rfl⟩
  ·have hpos:0 < b.length:=by simp only [decide_eq_true_eq] at q; omega
   obtain ⟨u,d1,⟨hu,hd1⟩,ht1⟩:=c_s_l1Below d0 (b.length:Int) hd0
   have hu1:=hu.2.1 (by omega)
   obtain ⟨v,d2,⟨hv,hd2⟩,ht2⟩:=c_s_l1Below d1 255 hd1
   have hv1:=hv.2.1 (by omega)
   have wv:IntKind.i64.wrap (1 + v)=1 + v:=IntWalk.i64_in _ (by omega)
   have hu2:u.toNat < b.length:=by omega
   have eg:(List.map uR b).getD u.toNat []=[uT b[u.toNat]]:=by simp [List.getD,List.getElem?_eq_getElem hu2]
   have q1:decide (u.toNat < b.length)=true:=decide_eq_true hu2
   have ex:=xor_u8b b[u.toNat] (w:=1 + v) (by omega) (by omega)
   have es:=set_u8b (b:=b) (i:=u.toNat) (a:=b[u.toNat]) (W:=b[u.toNat] ^^^ mkU (1 + v))
   have el:(b.set u.toNat (b[u.toNat] ^^^ mkU (1 + v))).length=b.length:=List.length_set ..
   generalize b[u.toNat] ^^^ mkU (1 + v)=W at ex es el
   simp -implicitDefEqProofs (maxSteps:=1000000) only [x_s_l1Bend,go_sem]
   repeat refine ⟨sc,?_⟩
   try exact sf
   refine C1 (ht) q ?_
   refine C3 (ht1) eg q1 wl ?_
   refine .of (ht2) ?_
   try simp -implicitDefEqProofs (maxSteps:=1000000) only [go_sem,wv,ex,storeAp]
   repeat refine ⟨sc,?_⟩
   try exact sf
   simp -implicitDefEqProofs (maxSteps:=1000000) only [go_sem,eg,es,q1,Nat.zero_add,List.length_cons,List.length_nil,wv,ex]
   refine ⟨decide_eq_true (by omega),b.set u.toNat W,d2,⟨by omega,hd2⟩,?_⟩
   rw [List.take_of_length_le (by rw [List.length_map]; omega)]
 have e:∀ j:Int,k≠j→(k==j)=false:=fun j h=>by simpa using h
 simp -implicitDefEqProofs (maxSteps:=1000000) only [x_s_l1Bend,go_sem]
 repeat refine ⟨sc,?_⟩
 try exact sf
 refine .of (ht) ?_
 try simp -implicitDefEqProofs (maxSteps:=1000000) only [go_sem,e 0 q0,e 1 q1]
 repeat refine ⟨sc,?_⟩
 try exact sf
 exact ⟨b,d0,⟨Nat.le_refl _,hd0⟩,rfl⟩
def x_s_DevOk:FnX:=⟨63,[.tmp 2],
  .q [.v 1 0,.F 2]
 (.seq (.q [.i 3 0]
 (.block 0 (.loop [1,3] (.seq (.q [.m 5 3,.f 6 1 0,.l 7 6,.n 8 7,.b 9 .lss 5 8]
 (.cond 9 .skip (.exit 0)))
 (.seq (.block 1 (.q [.f 12 1 0,.l 13 12,.m 14 3,.x 15 1 13 14,.l 16 15,.n 17 16,.B 18 .gtr 17 120]
 (.c 18 (.q [.F 2]
 .ret))))
 (.reg [.m 10 3,.B 11 .add 10 1,.m 3 11]))))))
 (.norm [1] (.seq (.q [.i 4 0]
 (.block 2 (.loop [1,4] (.seq (.q [.m 19 4,.f 20 1 1,.l 21 20,.n 22 21,.b 23 .lss 19 22]
 (.cond 23 .skip (.exit 2)))
 (.seq (.block 3 (.seq (.draw [.f 26 1 1,.l 27 26,.m 28 4,.x 29 2 27 28,.f 30 29 0,.l 31 30,.f 32 1 0,.l 33 32,.n 34 33,.B 35 .sub 34 1,.op 36 (.call 120 [0,0,0] [(.t 31),(.i 0),(.t 35)]),.N 37 36,.m 38 37,.z 38 (.f 39 1 1),.z 38 (.l 40 39),.z 38 (.m 41 4),.z 38 (.x 42 2 40 41),.z 38 (.f 43 42 1),.z 38 (.l 44 43),.z 38 (.n 45 44),.z 38 (.B 46 .gtr 45 120),.r 47 38 46] [[],[0],[],[1,2],[3],[4],[],[6],[7],[8],[5,9],[10],[11,10],[12],[13,12],[12],[14,15,12],[16,12],[17,12],[18,12],[19,12],[12,20]])
 (.c 47 (.q [.F 2]
 .ret))))
 (.reg [.m 24 4,.B 25 .add 24 1,.m 4 25]))))))
 (.norm [1] (.q [.f 48 1 0,.l 49 48,.n 50 49,.op 51 (.call 120 [0,0,0] [(.t 50),(.i 1),(.i 64)]),.m 52 51,.y 52 (.f 53 1 1),.y 52 (.l 54 53),.y 52 (.n 55 54),.y 52 (.B 56 .leq 55 40),.a 57 52 56,.m 58 57,.y 58 (.f 59 1 2),.y 58 (.l 60 59),.y 58 (.op 61 (.call 120 [0,0,0] [(.t 60),(.i (-1)),(.i 1000)])),.a 62 58 61,.m 2 62]
 .ret)))))⟩
theorem r_s_DevOk {Te:TE} (c_s_l1In:C_s_l1In Te):C_s_DevOk (RF Te x_s_DevOk):=by
 intro d h
 obtain ⟨⟨hl,hS⟩,hl2,hC⟩:=h
 have ws:IntKind.i64.wrap ((d.Secs.length:Int) - 1)=(d.Secs.length:Int) - 1:=IntWalk.i64_in _ (by omega)
 refine X0 x_s_DevOk.eq_1 ?_
 refine loop_of (σ:=Nat) (fun i=>⟨[(1,.bp 1 0),(3,.one (.pv (.int .i64 i)))],[(1,[.ro 1 (d.Secs.map (fun y=>[slT false 1 uR y])),.ro 2 (d.Cache.map (WrV.enc false)),.pv (.int .i64 d.Fuse),.pv (.bool d.Down)])],[(0,d.enc false)]⟩) (fun i=>i≤d.Secs.length∧(d.Secs.take i).all (secGood)=true) (fun i=>d.Secs.length - i) 0 ?_ ⟨Nat.zero_le _,rfl⟩ ?_
 ·simp -implicitDefEqProofs (maxSteps:=1000000) only [go_sem]
  try rfl
 ·rintro i ⟨hi,hp⟩
  cases q:decide ((i:Int) < (d.Secs.length:Int))
  ·have eS:=all_end (p:=secGood) (show d.Secs.length≤i by simp only [decide_eq_false_iff_not] at q; omega) hp
   refine G1 q ?_
   refine loop_of (σ:=Nat) (fun i=>⟨[(1,.bp 1 0),(4,.one (.pv (.int .i64 i)))],[(1,[.ro 1 (d.Secs.map (fun y=>[slT false 1 uR y])),.ro 2 (d.Cache.map (WrV.enc false)),.pv (.int .i64 d.Fuse),.pv (.bool d.Down)])],[(0,d.enc false)]⟩) (fun i=>i≤d.Cache.length∧(d.Cache.take i).all (wrGood d.Secs.length)=true) (fun i=>d.Cache.length - i) 0 ?_ ⟨Nat.zero_le _,rfl⟩ ?_
   ·simp -implicitDefEqProofs (maxSteps:=1000000) only [go_sem]
    try rfl
   ·rintro i ⟨hi,hp⟩
    cases q:decide ((i:Int) < (d.Cache.length:Int))
    ·have eC:=all_end (p:=wrGood d.Secs.length) (show d.Cache.length≤i by simp only [decide_eq_false_iff_not] at q; omega) hp
     refine G1 q ?_
     refine C0 (c_s_l1In _ _ _) ?_
     cases g1:win (d.Secs.length:Int) 1 64
     ·have e:d.ok=false:=by simp only [DevV.ok,g1,Bool.false_and]
      exact F1 e
     refine G0 ?_
     cases g2:decide ((d.Cache.length:Int)≤40)
     ·have e:d.ok=false:=by simp only [DevV.ok,g2,Bool.and_false,Bool.false_and]
      exact F2 g2 e
     refine G1 g2 ?_
     have e:d.ok=win d.Fuse (-1) 1000:=by simp only [DevV.ok,g1,g2,eS,eC,Bool.and_true,Bool.true_and]
     exact D1 (c_s_l1In _ _ _) e
    ·have k1:i < d.Cache.length:=by simp only [decide_eq_true_eq] at q; omega
     refine G3 q (List.getElem?_eq_getElem k1) ws ?_
     refine C0 (c_s_l1In _ _ _) ?_
     cases g:win d.Cache[i].N 0 ((d.Secs.length:Int) - 1)
     ·have gg:wrGood d.Secs.length d.Cache[i]=false:=by simp only [wrGood,g,Bool.false_and]
      have e:d.ok=false:=by simp only [DevV.ok,all_not (p:=wrGood d.Secs.length) k1 gg,Bool.and_false]
      exact F1 e
     ·cases g2:decide ((d.Cache[i].B.length:Int) > 120)
      ·refine G2 g2 (List.getElem?_eq_getElem k1) ?_
       exact ⟨i + 1,by rw [IntWalk.i64_in _ (by omega)]; rfl,⟨k1,all_step (p:=wrGood d.Secs.length) k1 hp (by simp only [wrGood,g,g2,Bool.not_false,Bool.and_true])⟩,by omega⟩
      ·have gg:wrGood d.Secs.length d.Cache[i]=false:=by simp only [wrGood,g2,Bool.not_true,Bool.and_false]
       have e:d.ok=false:=by simp only [DevV.ok,all_not (p:=wrGood d.Secs.length) k1 gg,Bool.and_false]
       exact F3 g2 (List.getElem?_eq_getElem k1) e
  ·have k1:i < d.Secs.length:=by simp only [decide_eq_true_eq] at q; omega
   cases g:decide ((d.Secs[i].length:Int) > 120)
   ·refine G3 q (List.getElem?_eq_getElem k1) g ?_
    exact ⟨i + 1,by rw [IntWalk.i64_in _ (by omega)]; rfl,⟨k1,all_step (p:=secGood) k1 hp (by simp only [secGood,g,Bool.not_false])⟩,by omega⟩
   ·have gg:secGood d.Secs[i]=false:=by simp only [secGood,g,Bool.not_true]
    have e:d.ok=false:=by simp only [DevV.ok,all_not (p:=secGood) k1 gg,Bool.and_false,Bool.false_and]
    exact F4 q (List.getElem?_eq_getElem k1) g e
def x_i_SignByte:FnX:=⟨26,[.tmp 4,.tmp 5],
  .q [.i 4 0,.F 5]
 (.seq (.q [.i 6 0]
 (.block 0 (.loop [0,1,6] (.seq (.q [.m 9 6,.B 10 .leq 9 255]
 (.cond 10 .skip (.exit 0)))
 (.seq (.block 1 (.q [.m 14 0,.m 15 6,.c 16 269 [14,15],.m 13 16,.e 17 13 0,.e 18 13 1,.m 7 17,.m 8 18]
 (.q [.m 19 8,.m 20 19,.y 20 (.m 21 7),.y 20 (.m 22 1),.y 20 (.b 23 .eql 21 22),.a 24 20 23]
 (.c 24 (.q [.m 25 6,.m 4 25,.T 5]
 .ret)))))
 (.reg [.m 11 6,.B 12 .add 11 1,.m 6 12]))))))
 (.norm [] (.q [.i 4 0,.F 5]
 .ret)))⟩
theorem r_i_SignByte {Te:TE} (c_i_ByteSign:C_i_ByteSign Te):C_i_SignByte (RF Te x_i_SignByte):=by
 intro cs n
 refine X0 x_i_SignByte.eq_1 ?_
 refine loop_of (σ:=Nat) (fun i=>⟨[(0,.one (.pv (.int .i64 cs))),(1,.one (.pv (.int .i64 n))),(6,.one (.pv (.int .i64 i)))],[],[(0,[iT cs]),(1,[iT n])]⟩) (fun i=>i≤256∧∀ j,j < i→sbHit cs n j=false) (fun i=>256 - i) 0 ?_ ⟨Nat.zero_le _,fun j h=>absurd h (Nat.not_lt_zero _)⟩ ?_
 ·simp -implicitDefEqProofs (maxSteps:=1000000) only [go_sem]
  try rfl
 ·rintro i ⟨hi,hp⟩
  cases q:decide ((i:Int)≤255)
  ·have e:=signByte_none (cs:=cs) (n:=n) fun j hj=>hp j (by simp only [decide_eq_false_iff_not] at q; omega)
   exact F2 q e
  ·have k1:i < 256:=by simp only [decide_eq_true_eq] at q; omega
   refine G1 q ?_
   refine C0 (c_i_ByteSign _ _) ?_
   cases g1:(byteSign cs i).2
   ·have g:sbHit cs n i=false:=by rw [sbHit,g1]; rfl
    refine G1 g1 ?_
    refine ⟨i + 1,?_,⟨k1,fun j hj=>by
     by_cases e:j=i
     ·subst e; exact g
     ·exact hp j (by omega)⟩,by omega⟩
    rw [IntWalk.i64_in _ (by omega)]
    rfl
   ·cases g2:((byteSign cs i).1==n)
    ·have g:sbHit cs n i=false:=by rw [sbHit,g1,g2]; rfl
     refine G2 g1 g2 ?_
     refine ⟨i + 1,?_,⟨k1,fun j hj=>by
      by_cases e:j=i
      ·subst e; exact g
      ·exact hp j (by omega)⟩,by omega⟩
     rw [IntWalk.i64_in _ (by omega)]
     rfl
    ·have e:=signByte_hit k1 hp (by rw [sbHit,g1,g2]; rfl)
     exact F3 g1 g2 e
def x_s_SignByte:FnX:=⟨26,[.tmp 4,.tmp 5],
  .q [.i 4 0,.F 5]
 (.seq (.q [.i 6 0]
 (.block 0 (.loop [0,1,6] (.seq (.q [.m 9 6,.B 10 .lss 9 256]
 (.cond 10 .skip (.exit 0)))
 (.seq (.block 1 (.q [.m 14 0,.m 15 6,.c 16 274 [14,15],.m 13 16,.e 17 13 0,.e 18 13 1,.m 7 17,.m 8 18]
 (.q [.m 19 8,.m 20 19,.y 20 (.m 21 7),.y 20 (.m 22 1),.y 20 (.b 23 .eql 21 22),.a 24 20 23]
 (.c 24 (.q [.m 25 6,.m 4 25,.T 5]
 .ret)))))
 (.reg [.m 11 6,.B 12 .add 11 1,.m 6 12]))))))
 (.norm [] (.q [.i 4 0,.F 5]
 .ret)))⟩
theorem r_s_SignByte {Te:TE} (c_s_ByteSign:C_s_ByteSign Te):C_s_SignByte (RF Te x_s_SignByte):=by
 intro cs n
 refine X0 x_s_SignByte.eq_1 ?_
 refine loop_of (σ:=Nat) (fun i=>⟨[(0,.one (.pv (.int .i64 cs))),(1,.one (.pv (.int .i64 n))),(6,.one (.pv (.int .i64 i)))],[],[(0,[iT cs]),(1,[iT n])]⟩) (fun i=>i≤256∧∀ j,j < i→sbHit cs n j=false) (fun i=>256 - i) 0 ?_ ⟨Nat.zero_le _,fun j h=>absurd h (Nat.not_lt_zero _)⟩ ?_
 ·simp -implicitDefEqProofs (maxSteps:=1000000) only [go_sem]
  try rfl
 ·rintro i ⟨hi,hp⟩
  cases q:decide ((i:Int) < 256)
  ·have e:=signByte_none (cs:=cs) (n:=n) fun j hj=>hp j (by simp only [decide_eq_false_iff_not] at q; omega)
   exact F2 q e
  ·have k1:i < 256:=by simp only [decide_eq_true_eq] at q; omega
   refine G1 q ?_
   refine C0 (c_s_ByteSign _ _) ?_
   cases g1:(byteSign cs i).2
   ·have g:sbHit cs n i=false:=by rw [sbHit,g1]; rfl
    refine G1 g1 ?_
    refine ⟨i + 1,?_,⟨k1,fun j hj=>by
     by_cases e:j=i
     ·subst e; exact g
     ·exact hp j (by omega)⟩,by omega⟩
    rw [IntWalk.i64_in _ (by omega)]
    rfl
   ·cases g2:((byteSign cs i).1==n)
    ·have g:sbHit cs n i=false:=by rw [sbHit,g1,g2]; rfl
     refine G2 g1 g2 ?_
     refine ⟨i + 1,?_,⟨k1,fun j hj=>by
      by_cases e:j=i
      ·subst e; exact g
      ·exact hp j (by omega)⟩,by omega⟩
     rw [IntWalk.i64_in _ (by omega)]
     rfl
    ·have e:=signByte_hit k1 hp (by rw [sbHit,g1,g2]; rfl)
     exact F3 g1 g2 e
def x_i_SignPair:FnX:=⟨17,[.tmp 2,.tmp 3,.tmp 4],
  .q [.i 2 0,.i 3 0,.F 4]
 (.seq (.block 0 (.q [.m 6 0,.op 7 (.call 90 [0,0,0] [(.t 6),(.i 12353),(.i 12435)]),.m 5 7]
 (.cond 5 (.q [.m 8 0,.B 9 .sub 8 12353,.B 10 .add 9 161,.i 2 164,.m 3 10,.T 4]
 .ret) (.q [.m 12 0,.op 13 (.call 90 [0,0,0] [(.t 12),(.i 12449),(.i 12534)]),.m 11 13]
 (.c 11 (.q [.m 14 0,.B 15 .sub 14 12449,.B 16 .add 15 161,.i 2 165,.m 3 16,.T 4]
 .ret))))))
 (.q [.i 2 0,.i 3 0,.F 4]
 .ret))⟩
theorem r_i_SignPair {Te:TE} (c_i_within:C_i_within Te):C_i_SignPair (RF Te x_i_SignPair):=by
 intro n
 refine X0 x_i_SignPair.eq_1 ?_
 refine C0 (c_i_within _ _ _) ?_
 cases g:win n 12353 12435
 ·refine G0 ?_
  refine C0 (c_i_within _ _ _) ?_
  cases g2:win n 12449 12534
  ·have e:signPair n=(0,0,false):=by rw [signPair,g,g2]; rfl
   exact F1 e
  ·have e:signPair n=(165,n - 12449 + 161,true):=by rw [signPair,g,g2]; rfl
   simp only [win,Bool.and_eq_true,decide_eq_true_eq] at g2
   have w1:IntKind.i64.wrap (n - 12449)=n - 12449:=IntWalk.i64_in _ (by omega)
   have w2:IntKind.i64.wrap (n - 12449 + 161)=n - 12449 + 161:=IntWalk.i64_in _ (by omega)
   exact F3 e w1 w2
 ·have e:signPair n=(164,n - 12353 + 161,true):=by rw [signPair,g]; rfl
  simp only [win,Bool.and_eq_true,decide_eq_true_eq] at g
  have w1:IntKind.i64.wrap (n - 12353)=n - 12353:=IntWalk.i64_in _ (by omega)
  have w2:IntKind.i64.wrap (n - 12353 + 161)=n - 12353 + 161:=IntWalk.i64_in _ (by omega)
  exact F3 e w1 w2
def x_s_SignPair:FnX:=⟨17,[.tmp 2,.tmp 3,.tmp 4],
  .q [.i 2 0,.i 3 0,.F 4]
 (.seq (.block 0 (.q [.m 6 0,.op 7 (.call 120 [0,0,0] [(.t 6),(.i 12353),(.i 12435)]),.m 5 7]
 (.cond 5 (.q [.m 8 0,.B 9 .sub 8 12353,.B 10 .add 9 161,.i 2 164,.m 3 10,.T 4]
 .ret) (.q [.m 12 0,.op 13 (.call 120 [0,0,0] [(.t 12),(.i 12449),(.i 12534)]),.m 11 13]
 (.c 11 (.q [.m 14 0,.B 15 .sub 14 12449,.B 16 .add 15 161,.i 2 165,.m 3 16,.T 4]
 .ret))))))
 (.q [.i 2 0,.i 3 0,.F 4]
 .ret))⟩
theorem r_s_SignPair {Te:TE} (c_s_l1In:C_s_l1In Te):C_s_SignPair (RF Te x_s_SignPair):=by
 intro n
 refine X0 x_s_SignPair.eq_1 ?_
 refine C0 (c_s_l1In _ _ _) ?_
 cases g:win n 12353 12435
 ·refine G0 ?_
  refine C0 (c_s_l1In _ _ _) ?_
  cases g2:win n 12449 12534
  ·have e:signPair n=(0,0,false):=by rw [signPair,g,g2]; rfl
   exact F1 e
  ·have e:signPair n=(165,n - 12449 + 161,true):=by rw [signPair,g,g2]; rfl
   simp only [win,Bool.and_eq_true,decide_eq_true_eq] at g2
   have w1:IntKind.i64.wrap (n - 12449)=n - 12449:=IntWalk.i64_in _ (by omega)
   have w2:IntKind.i64.wrap (n - 12449 + 161)=n - 12449 + 161:=IntWalk.i64_in _ (by omega)
   exact F3 e w1 w2
 ·have e:signPair n=(164,n - 12353 + 161,true):=by rw [signPair,g]; rfl
  simp only [win,Bool.and_eq_true,decide_eq_true_eq] at g
  have w1:IntKind.i64.wrap (n - 12353)=n - 12353:=IntWalk.i64_in _ (by omega)
  have w2:IntKind.i64.wrap (n - 12353 + 161)=n - 12353 + 161:=IntWalk.i64_in _ (by omega)
  exact F3 e w1 w2
def x_s_l12Mark:FnX:=⟨16,[.tmp 2],
  .q [.v 1 0,.F 2]
 (.q [.f 3 1 0,.l 4 3,.op 5 (.call 120 [0,0,0] [(.t 4),(.i 1),(.i 9)]),.m 6 5,.y 6 (.f 7 1 1),.y 6 (.l 8 7),.y 6 (.c 9 161 [8]),.a 10 6 9,.m 11 10,.y 11 (.f 12 1 2),.y 11 (.l 13 12),.y 11 (.op 14 (.call 120 [0,0,0] [(.t 13),(.i 0),(.i 6)])),.a 15 11 14,.m 2 15]
 .ret)⟩
theorem r_s_l12Mark {Te:TE} (c_s_l1In:C_s_l1In Te) (c_s_l1Word:C_s_l1Word Te):C_s_l12Mark (RF Te x_s_l12Mark):=by
 intro m
 refine run0 ?_
 simp -implicitDefEqProofs (maxSteps:=1000000) only [x_s_l12Mark,go_sem,MarkV.ok]
 repeat refine ⟨sc,?_⟩
 try exact sf
 refine C0 (c_s_l1In _ _ _) ?_
 cases g1:win m.Who 1 9
 ·exact F1 g1
 refine G1 g1 ?_
 refine C0 (c_s_l1Word _) ?_
 cases g2:win m.Seq 0 65535
 ·exact F1 g2
 refine G1 g2 ?_
 exact D0 (c_s_l1In _ _ _)
def x_s_NameOk:FnX:=⟨27,[.tmp 2],
  .q [.F 2]
 (.seq (.q [.i 3 0]
 (.block 0 (.loop [0,3] (.seq (.q [.m 4 3,.m 5 0,.op 6 (.slen (.t 5)),.b 7 .lss 4 6]
 (.cond 7 .skip (.exit 0)))
 (.seq (.block 1 (.q [.m 10 0,.m 11 3,.op 12 (.sidx (.t 10) (.t 11)),.op 13 (.conv (.int .i64) (.t 12)),.op 14 (.call 120 [0,0,0] [(.t 13),(.i 97),(.i 122)]),.N 15 14,.m 16 15,.y 16 (.m 17 0),.y 16 (.m 18 3),.y 16 (.op 19 (.sidx (.t 17) (.t 18))),.y 16 (.op 20 (.conv (.int .i64) (.t 19))),.y 16 (.op 21 (.call 120 [0,0,0] [(.t 20),(.i 48),(.i 57)])),.y 16 (.N 22 21),.a 23 16 22]
 (.c 23 (.q [.F 2]
 .ret))))
 (.reg [.m 8 3,.B 9 .add 8 1,.m 3 9]))))))
 (.norm [0] (.q [.m 24 0,.op 25 (.slen (.t 24)),.op 26 (.call 120 [0,0,0] [(.t 25),(.i 1),(.i 6)]),.m 2 26]
 .ret)))⟩
theorem r_s_NameOk {Te:TE} (c_s_l1In:C_s_l1In Te):C_s_NameOk (RF Te x_s_NameOk):=by
 intro s h
 refine run0 ?_
 have hsz:s.data.toList.length=s.size:=by rw [Array.length_toList]; rfl
 simp -implicitDefEqProofs (maxSteps:=1000000) only [x_s_NameOk,go_sem,nameOk]
 repeat refine ⟨sc,?_⟩
 try exact sf
 refine loop_of (σ:=Nat) (fun i=>⟨[(0,.one (.pv (.string s))),(3,.one (.pv (.int .i64 i)))],[],[(0,[sT s])]⟩) (fun i=>i≤s.size∧(s.data.toList.take i).all nameCh=true) (fun i=>s.size - i) 0 ?_ ⟨Nat.zero_le _,rfl⟩ ?_
 ·simp -implicitDefEqProofs (maxSteps:=1000000) only [go_sem]; rfl
 ·rintro i ⟨hi,hp⟩
  cases q:decide ((i:Int) < (s.size:Int))
  ·have e:=all_end (p:=nameCh) (show s.data.toList.length≤i by simp only [decide_eq_false_iff_not] at q; omega) hp
   refine G1 q ?_
   exact D1 (c_s_l1In _ _ _) e
  ·have hi':i < s.size:=by simp only [decide_eq_true_eq] at q; omega
   have hi2:i < s.data.toList.length:=by omega
   have q1:decide (i < s.size)=true:=decide_eq_true hi'
   have eg:s.data.toList.getD i 0=s.data.toList[i]:=by rw [List.getD_eq_getElem?_getD,List.getElem?_eq_getElem hi2]; rfl
   have hb:=s.data.toList[i].toNat_lt
   have w1:IntKind.i64.wrap ((s.data.toList[i].toNat:Nat):Int)=(s.data.toList[i].toNat:Nat):=IntWalk.i64_in _ (by omega)
   refine G4 q q1 eg w1 ?_
   refine C0 (c_s_l1In _ _ _) ?_
   cases g1:win ((s.data.toList[i].toNat:Nat):Int) 97 122
   ·refine G3 q1 eg w1 ?_
    refine C0 (c_s_l1In _ _ _) ?_
    cases g2:win ((s.data.toList[i].toNat:Nat):Int) 48 57
    ·have e:=all_not (p:=nameCh) hi2 (by simp only [nameCh,g1,g2,Bool.or_false])
     exact F1 e
    ·refine G0 ?_
     refine ⟨i + 1,by rw [IntWalk.i64_in _ (by omega)]; rfl,⟨hi',all_step (p:=nameCh) hi2 hp (by simp only [nameCh,g1,g2,Bool.or_true])⟩,by omega⟩
   ·refine G0 ?_
    refine ⟨i + 1,by rw [IntWalk.i64_in _ (by omega)]; rfl,⟨hi',all_step (p:=nameCh) hi2 hp (by simp only [nameCh,g1,Bool.true_or])⟩,by omega⟩
end Go.X

