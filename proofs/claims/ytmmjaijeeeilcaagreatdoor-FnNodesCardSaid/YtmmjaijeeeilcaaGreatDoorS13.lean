/- Texts: CVu_2 CVza CVn CT_2 CVp CVi_2 CVb_2 CVj_2 CVl_3 CVf CK_3. -/
import Derived.Test.YtmmjaijeeeilcaaGreatDoorS04
set_option linter.unusedVariables false
set_option linter.unusedSimpArgs false
namespace Go.X
set_option maxRecDepth 100000
set_option maxHeartbeats 8000000
def x_i_Add_1:XCode:=.seq (.q [.f 36 6 0,.f 37 36 3,.l 38 37,.m 39 38,.z 39 (.f 40 6 8),.z 39 (.l 41 40),.z 39 (.B 42 .eql 41 30),.r 43 39 42]
 (.c 43 (.q [.L 44 9 6,.s 100005 9 4 44,.F 5]
 .ret)))
 (.seq (.draw [.f 45 6 0,.L 46 4 45,.f 47 6 7,.l 48 47,.f 49 6 8,.l 50 49,.c 51 258 [48,50],.f 52 6 7,.l 53 52,.f 54 6 8,.l 55 54,.L 56 13 3,.c 57 259 [53,55,56],.c 58 257 [46,51,57],.f 59 6 0,.s 100006 4 59 58] [[],[0],[],[2],[],[4],[3,5],[],[7],[],[9],[],[8,10,11,6],[1,6,12,12],[0,1,2,3,4,5,6,7,8,9,10,11,12,13],[14,13,13,0,1,2,3,4,5,6,7,8,9,10,11,12,13]])
 (.q [.f 60 6 0,.L 61 4 60,.c 62 260 [61],.f 63 6 0,.s 100007 4 63 62]
 (.seq (.q [.f 64 6 0,.f 65 64 3,.l 66 65]
 (.c 66 (.q [.L 67 9 6,.s 100008 9 4 67,.F 5]
 .ret)))
 (.q [.f 68 6 8,.l 69 68,.B 70 .add 69 1,.f 71 6 8,.s 100009 1 71 70]
 (.q [.L 72 3 7,.f 73 6 4,.s 100010 3 73 72]
 (.q [.L 74 9 6,.s 100011 9 4 74,.T 5]
 .ret))))))
def x_i_Add:FnX:=⟨75,[.cell 4 (some 9),.tmp 5],
  .q [.v 2 0,.v 3 1,.op 4 (.alloc [.nils 1,.nils 2,.i 0,.F,.nils 7,.i 0,.nils 3,.i 0,.i 0]),.F 5]
 (.q [.L 9 9 2,.c 10 158 [9],.op 6 (.alloc [.nils 1,.nils 2,.i 0,.F,.nils 7,.i 0,.nils 3,.i 0,.i 0]),.s 100001 9 6 10]
 (.q [.f 12 2 4,.L 13 3 12,.L 14 13 3,.c 15 255 [13,14],.m 11 15,.e 16 11 0,.e 17 11 1,.op 7 (.alloc [.nils 7,.i 0,.nils 3]),.s 100002 3 7 16,.m 8 17]
 (.seq (.q [.L 18 9 2,.c 19 89 [18],.N 20 19,.m 21 20,.z 21 (.f 22 2 0),.z 21 (.f 23 22 3),.z 21 (.l 24 23),.r 25 21 24,.m 26 25,.z 26 (.m 27 8),.z 26 (.N 28 27),.r 29 26 28]
 (.c 29 (.q [.L 30 9 6,.s 100003 9 4 30,.F 5]
 .ret)))
 (.seq (.q [.f 31 6 8,.l 32 31,.B 33 .eql 32 30]
 (.c 33 (.reg [.L 34 9 6,.c 35 256 [34],.s 100004 9 6 35])))
 (.norm [3,4,6,7] (x_i_Add_1))))))⟩
theorem r_i_Add {Te:TE} (c_i_copyStore:C_i_copyStore Te) (c_i_Apply:C_i_Apply Te) (c_i_StoreOk:C_i_StoreOk Te) (c_i_Lay:C_i_Lay Te) (c_i_sectorOf:C_i_sectorOf Te) (c_i_PutRec:C_i_PutRec Te) (c_i_WriteSec:C_i_WriteSec Te) (c_i_FlushDev:C_i_FlushDev Te):C_i_Add (RF Te x_i_Add):=by
 intro s r hs hr
 have hL:=hs.len (by decide)
 refine X0 x_i_Add.eq_1 ?_
 refine C0 (c_i_copyStore s hL) ?_
 refine C0 (c_i_Apply s.T r hs.2 hr) ?_
 refine C0 (c_i_StoreOk s (hs.mono (by decide))) ?_
 cases g1:s.ok
 ·have e:s.add r=(s,false):=by rw [StoreV.add,StoreV.fits,g1]; rfl
  try simp -implicitDefEqProofs (maxSteps:=1000000) only [go_sem,e,take_all,take_marks,StoreV.enc]
  repeat refine ⟨sc,?_⟩
  try exact sf
  try rfl
 cases g2:s.D.Down
 rotate_left
 ·have e:s.add r=(s,false):=by rw [StoreV.add,StoreV.fits,g1,g2]; rfl
  try simp -implicitDefEqProofs (maxSteps:=1000000) only [go_sem,g2,e,take_all,take_marks,StoreV.enc]
  repeat refine ⟨sc,?_⟩
  try exact sf
  try rfl
 cases g3:(s.T.apply r).2
 ·have e:s.add r=(s,false):=by rw [StoreV.add,StoreV.fits,g1,g2,g3]; rfl
  try simp -implicitDefEqProofs (maxSteps:=1000000) only [go_sem,g2,g3,e,take_all,take_marks,StoreV.enc]
  repeat refine ⟨sc,?_⟩
  try exact sf
  try rfl
 have e:s.add r=s.room.end (s.T.apply r).1 r:=by rw [StoreV.add,StoreV.fits,g1,g2,g3]; rfl
 have hr8:=hr.mono (m:=2 ^ 48) (by decide)
 have q:=room_ok g1 hs.2
 have hk1:=(StoreV.ok_iff s).1 g1
 rw [e]
 generalize (s.T.apply r).1=t
 clear e
 cases g4:(s.Place==30)
 ·have er:s.room=s:=by rw [StoreV.room,g4]; rfl
  rw [er] at q ⊢
  have f2:=write_ok q.1 (secOf s.Gen s.Place) (putRec s.Gen s.Place r)
  have hp:=putRec_len s.Gen s.Place r
  have ew:IntKind.i64.wrap (s.Place + 1)=s.Place + 1:=IntWalk.i64_in _ (by omega)
  have t1:=c_i_WriteSec s.D (secOf s.Gen s.Place) (putRec s.Gen s.Place r) q.1 (by omega)
  simp only [DevV.enc,g2] at t1
  refine G2 g2 g4 ?_
  simp -implicitDefEqProofs (maxSteps:=1000000) only [x_i_Add_1,go_sem,g4]
  repeat refine ⟨sc,?_⟩
  refine C0 (c_i_sectorOf _ _) ?_
  refine C0 (c_i_PutRec s.Gen s.Place r hr8) ?_
  refine C0 (t1) ?_
  refine C0 (c_i_FlushDev _ f2) ?_
  have el:((s.D.write (secOf s.Gen s.Place) (putRec s.Gen s.Place r)).flush)=s.log r:=rfl
  rw [el]
  cases g9:(s.log r).Down
  ·have e2:s.end t r=(⟨s.log r,t,s.Gen,s.Place + 1⟩,true):=by rw [StoreV.end,g2,g4,g9]; rfl
   try simp -implicitDefEqProofs (maxSteps:=1000000) only [go_sem,g9,ew,e2,take_all,take_marks,StoreV.enc]
   repeat refine ⟨sc,?_⟩
   try exact sf
   try rfl
  ·have e2:s.end t r=(⟨s.log r,s.T,s.Gen,s.Place⟩,false):=by rw [StoreV.end,g2,g4,g9]; rfl
   try simp -implicitDefEqProofs (maxSteps:=1000000) only [go_sem,g9,e2,take_all,take_marks,StoreV.enc]
   repeat refine ⟨sc,?_⟩
   try exact sf
   try rfl
 ·have er:s.room=s.relay:=by rw [StoreV.room,g4]; rfl
  rw [er] at q ⊢
  have tl:=c_i_Lay s hs
  simp only [StoreV.enc,DevV.enc,g2] at tl
  refine G2 g2 g4 ?_
  refine C0 (tl) ?_
  generalize s.relay=S at q ⊢
  cases gd:S.D.Down
  rotate_left
  ·have e2:S.end t r=(S,false):=by rw [StoreV.end,gd]; rfl
   try simp -implicitDefEqProofs (maxSteps:=1000000) only [go_sem,x_i_Add_1,gd,e2,take_all,take_marks,StoreV.enc]
   repeat refine ⟨sc,?_⟩
   try exact sf
   try rfl
  cases gp:(S.Place==30)
  rotate_left
  ·have e2:S.end t r=(S,false):=by rw [StoreV.end,gd,gp]; rfl
   try simp -implicitDefEqProofs (maxSteps:=1000000) only [go_sem,x_i_Add_1,gd,gp,e2,take_all,take_marks,StoreV.enc]
   repeat refine ⟨sc,?_⟩
   try exact sf
   try rfl
  have f2:=write_ok q.1 (secOf S.Gen S.Place) (putRec S.Gen S.Place r)
  have hp:=putRec_len S.Gen S.Place r
  have ew:IntKind.i64.wrap (S.Place + 1)=S.Place + 1:=IntWalk.i64_in _ (by omega)
  have t1:=c_i_WriteSec S.D (secOf S.Gen S.Place) (putRec S.Gen S.Place r) q.1 (by omega)
  simp only [DevV.enc,gd] at t1
  simp -implicitDefEqProofs (maxSteps:=1000000) only [x_i_Add_1,go_sem,gd,gp]
  repeat refine ⟨sc,?_⟩
  refine C0 (c_i_sectorOf _ _) ?_
  refine C0 (c_i_PutRec S.Gen S.Place r hr8) ?_
  refine C0 (t1) ?_
  refine C0 (c_i_FlushDev _ f2) ?_
  have el:((S.D.write (secOf S.Gen S.Place) (putRec S.Gen S.Place r)).flush)=S.log r:=rfl
  rw [el]
  cases g9:(S.log r).Down
  ·have e2:S.end t r=(⟨S.log r,t,S.Gen,S.Place + 1⟩,true):=by rw [StoreV.end,gd,gp,g9]; rfl
   try simp -implicitDefEqProofs (maxSteps:=1000000) only [go_sem,g9,ew,e2,take_all,take_marks,StoreV.enc]
   repeat refine ⟨sc,?_⟩
   try exact sf
   try rfl
  ·have e2:S.end t r=(⟨S.log r,S.T,S.Gen,S.Place⟩,false):=by rw [StoreV.end,gd,gp,g9]; rfl
   try simp -implicitDefEqProofs (maxSteps:=1000000) only [go_sem,g9,e2,take_all,take_marks,StoreV.enc]
   repeat refine ⟨sc,?_⟩
   try exact sf
   try rfl
def x_i_added:FnX:=⟨20,[.cell 4 (some 10),.tmp 5],
  .q [.v 2 0,.v 3 1,.op 4 (.alloc [.nils 1,.nils 2,.i 0,.F,.nils 7,.i 0,.nils 3,.i 0,.i 0,.i 0]),.F 5]
 (.q [.f 9 2 0,.L 10 9 9,.L 11 13 3,.c 12 174 [10,11],.m 8 12,.e 13 8 0,.e 14 8 1,.op 6 (.alloc [.nils 1,.nils 2,.i 0,.F,.nils 7,.i 0,.nils 3,.i 0,.i 0]),.s 100001 9 6 13,.m 7 14]
 (.q [.L 15 9 6,.f 16 2 9,.l 17 16,.op 18 (.build [.nils 1,.nils 2,.i 0,.F,.nils 7,.i 0,.nils 3,.i 0,.i 0,.i 0] [(0,9,(.t 15)),(9,1,(.t 17))]),.m 19 7,.s 100002 10 4 18,.m 5 19]
 .ret))⟩
theorem r_i_added {Te:TE} (c_i_Add:C_i_Add Te):C_i_added (RF Te x_i_added):=by
 intro n r hn hr
 refine X0 x_i_added.eq_1 ?_
 refine .of (c_i_Add n.S r hn hr) ?_
 try simp -implicitDefEqProofs (maxSteps:=1000000) only [go_sem,take_all,take_marks,StoreV.enc]
 repeat refine ⟨sc,?_⟩
 try exact sf
 try rfl
def x_i_RowOf:FnX:=⟨79,[.cell 8 (some 7),.tmp 9],
  .q [.op 8 (.alloc [.e,.i 0,.nils 1,.i 0,.nils 1,.i 0,.F]),.i 9 0]
 (.q [.m 18 3,.op 19 (.call 251 [0,0] [(.i 0),(.t 18)]),.m 17 19,.e 20 17 0,.e 21 17 1,.op 10 (.alloc [.i 0,.nils 1]),.s 100001 2 10 20,.m 11 21]
 (.seq (.q [.m 22 0,.op 23 (.call 90 [0,0,0] [(.t 22),(.i 0),(.i 7)]),.N 24 23,.m 25 24,.z 25 (.m 26 1),.z 25 (.c 27 98 [26]),.z 25 (.N 28 27),.r 29 25 28,.m 30 29,.z 30 (.m 31 2),.z 30 (.op 32 (.call 90 [0,0,0] [(.t 31),(.i 1),(.i 5)])),.z 30 (.N 33 32),.r 34 30 33,.m 35 34,.z 35 (.m 36 11),.z 35 (.N 37 36),.r 38 35 37]
 (.c 38 (.q [.op 39 (.build [.e,.i 0,.nils 1,.i 0,.nils 1,.i 0,.F] []),.s 100002 7 8 39,.i 9 1]
 .ret)))
 (.q [.m 41 2,.m 42 3,.c 43 251 [41,42],.m 40 43,.e 44 40 0,.e 45 40 1,.op 12 (.alloc [.i 0,.nils 1]),.s 100003 2 12 44,.m 13 45]
 (.q [.m 46 1,.L 47 2 12,.op 48 (.build [.e,.i 0,.nils 1,.i 0,.nils 1,.i 0,.F] [(0,1,(.t 46)),(1,2,(.t 47)),(5,1,(.i 1))]),.op 14 (.alloc [.e,.i 0,.nils 1,.i 0,.nils 1,.i 0,.F]),.s 100004 7 14 48]
 (.q [.m 49 1,.L 50 2 10,.op 51 (.build [.e,.i 0,.nils 1,.i 0,.nils 1,.i 0,.F] [(0,1,(.t 49)),(3,2,(.t 50)),(5,1,(.i 2))]),.op 15 (.alloc [.e,.i 0,.nils 1,.i 0,.nils 1,.i 0,.F]),.s 100005 7 15 51]
 (.q [.L 52 7 15,.op 16 (.alloc [.e,.i 0,.nils 1,.i 0,.nils 1,.i 0,.F]),.s 100006 7 16 52]
 (.q [.f 53 16 6,⟨none,none,100007,.store 1 (.t 53) .T⟩]
 (.seq (.q [.m 54 0]
 (.block 0 (.seq (.q [.B 56 .eql 54 0,.m 55 56]
 (.cond 55 .skip (.reg [.B 57 .eql 54 7,.m 55 57])))
 (.cond 55 (.seq (.q [.m 58 13,.N 59 58]
 (.c 59 (.q [.op 60 (.build [.e,.i 0,.nils 1,.i 0,.nils 1,.i 0,.F] []),.s 100008 7 8 60,.i 9 3]
 .ret)))
 (.q [.L 61 7 14,.s 100009 7 8 61,.i 9 0]
 .ret)) (.seq (.q [.B 63 .eql 54 4,.m 62 63]
 (.cond 62 .skip (.reg [.B 64 .eql 54 5,.m 62 64])))
 (.cond 62 (.q [.L 65 7 15,.s 100010 7 8 65,.i 9 0]
 .ret) (.q [.B 67 .eql 54 6,.m 66 67]
 (.c 66 (.seq (.q [.m 68 13,.N 69 68]
 (.c 69 (.q [.L 70 7 16,.s 100011 7 8 70,.i 9 0]
 .ret)))
 (.q [.L 71 7 14,.s 100012 7 8 71,.i 9 0]
 .ret))))))))))
 (.seq (.q [.m 72 13,.N 73 72]
 (.c 73 (.q [.L 74 7 16,.s 100013 7 8 74,.i 9 0]
 .ret)))
 (.q [.m 75 1,.L 76 2 12,.L 77 2 10,.op 78 (.build [.e,.i 0,.nils 1,.i 0,.nils 1,.i 0,.F] [(0,1,(.t 75)),(1,2,(.t 76)),(3,2,(.t 77)),(5,1,(.i 3))]),.s 100014 7 8 78,.i 9 0]
 .ret))))))))))⟩
theorem r_i_RowOf {Te:TE} (c_i_CellOf:C_i_CellOf Te) (c_i_within:C_i_within Te) (c_i_NameOk:C_i_NameOk Te):C_i_RowOf (RF Te x_i_RowOf):=by
 intro ph key cs s hk hs
 refine X0 x_i_RowOf.eq_1 ?_
 refine C0 (c_i_CellOf 0 s hs) ?_
 refine C0 (c_i_within _ _ _) ?_
 cases g1:win ph 0 7
 ·try simp -implicitDefEqProofs (maxSteps:=1000000) only [go_sem,rowOf,rowFine,g1,take_rows]
  repeat refine ⟨sc,?_⟩
  try exact sf
  try rfl
 refine G0 ?_
 refine C0 (c_i_NameOk key (by omega)) ?_
 cases g2:nameOk key
 ·try simp -implicitDefEqProofs (maxSteps:=1000000) only [go_sem,rowOf,rowFine,g1,g2,take_rows]
  repeat refine ⟨sc,?_⟩
  try exact sf
  try rfl
 refine G0 ?_
 refine C0 (c_i_within _ _ _) ?_
 cases g3:win cs 1 5
 ·try simp -implicitDefEqProofs (maxSteps:=1000000) only [go_sem,rowOf,rowFine,g1,g2,g3,take_rows]
  repeat refine ⟨sc,?_⟩
  try exact sf
  try rfl
 refine G0 ?_
 cases g4:(cellOf 0 s).2
 ·try simp -implicitDefEqProofs (maxSteps:=1000000) only [go_sem,rowOf,rowFine,g1,g2,g3,g4,take_rows]
  repeat refine ⟨sc,?_⟩
  try exact sf
  try rfl
 refine G1 g4 ?_
 refine C0 (c_i_CellOf cs s hs) ?_
 cases g5:(cellOf cs s).2 <;> cases p0:(ph==0) <;> cases p7:(ph==7) <;> cases p4:(ph==4) <;> cases p5:(ph==5) <;> cases p6:(ph==6)
 all_goals
  try simp -implicitDefEqProofs (maxSteps:=1000000) only [go_sem,rowOf,rowFine,g1,g2,g3,g4,g5,p0,p7,p4,p5,p6,take_rows]
  try rfl
def x_s_RowOf:FnX:=⟨77,[.cell 8 (some 7),.tmp 9],
  .q [.op 8 (.alloc [.e,.i 0,.nils 1,.i 0,.nils 1,.i 0,.F]),.i 9 0]
 (.q [.m 15 3,.op 16 (.call 200 [0,0] [(.i 0),(.t 15)]),.m 14 16,.e 17 14 0,.e 18 14 1,.op 10 (.alloc [.i 0,.nils 1]),.s 100001 2 10 17,.m 11 18]
 (.seq (.q [.m 19 0,.op 20 (.call 120 [0,0,0] [(.t 19),(.i 0),(.i 7)]),.N 21 20,.m 22 21,.z 22 (.m 23 1),.z 22 (.c 24 101 [23]),.z 22 (.N 25 24),.r 26 22 25,.m 27 26,.z 27 (.m 28 2),.z 27 (.op 29 (.call 120 [0,0,0] [(.t 28),(.i 1),(.i 5)])),.z 27 (.N 30 29),.r 31 27 30,.m 32 31,.z 32 (.m 33 11),.z 32 (.N 34 33),.r 35 32 34]
 (.c 35 (.q [.op 36 (.build [.e,.i 0,.nils 1,.i 0,.nils 1,.i 0,.F] []),.s 100002 7 8 36,.i 9 1]
 .ret)))
 (.q [.m 38 2,.m 39 3,.c 40 200 [38,39],.m 37 40,.e 41 37 0,.e 42 37 1,.op 12 (.alloc [.i 0,.nils 1]),.s 100003 2 12 41,.m 13 42]
 (.seq (.q [.m 43 0]
 (.block 0 (.seq (.q [.B 45 .eql 43 0,.m 44 45]
 (.cond 44 .skip (.reg [.B 46 .eql 43 7,.m 44 46])))
 (.cond 44 (.seq (.q [.m 47 13,.N 48 47]
 (.c 48 (.q [.op 49 (.build [.e,.i 0,.nils 1,.i 0,.nils 1,.i 0,.F] []),.s 100004 7 8 49,.i 9 3]
 .ret)))
 (.q [.m 50 1,.L 51 2 12,.op 52 (.build [.e,.i 0,.nils 1,.i 0,.nils 1,.i 0,.F] [(0,1,(.t 50)),(1,2,(.t 51)),(5,1,(.i 1))]),.s 100005 7 8 52,.i 9 0]
 .ret)) (.seq (.q [.B 54 .eql 43 4,.m 53 54]
 (.cond 53 .skip (.reg [.B 55 .eql 43 5,.m 53 55])))
 (.cond 53 (.q [.m 56 1,.L 57 2 10,.op 58 (.build [.e,.i 0,.nils 1,.i 0,.nils 1,.i 0,.F] [(0,1,(.t 56)),(3,2,(.t 57)),(5,1,(.i 2))]),.s 100006 7 8 58,.i 9 0]
 .ret) (.q [.B 60 .eql 43 6,.m 59 60]
 (.c 59 (.seq (.q [.m 61 13]
 (.c 61 (.q [.m 62 1,.L 63 2 12,.op 64 (.build [.e,.i 0,.nils 1,.i 0,.nils 1,.i 0,.F] [(0,1,(.t 62)),(1,2,(.t 63)),(5,1,(.i 1))]),.s 100007 7 8 64,.i 9 0]
 .ret)))
 (.q [.m 65 1,.L 66 2 10,.op 67 (.build [.e,.i 0,.nils 1,.i 0,.nils 1,.i 0,.F] [(0,1,(.t 65)),(3,2,(.t 66)),(5,1,(.i 2)),(6,1,.T)]),.s 100008 7 8 67,.i 9 0]
 .ret))))))))))
 (.seq (.q [.m 68 13,.N 69 68]
 (.c 69 (.q [.m 70 1,.L 71 2 10,.op 72 (.build [.e,.i 0,.nils 1,.i 0,.nils 1,.i 0,.F] [(0,1,(.t 70)),(3,2,(.t 71)),(5,1,(.i 2)),(6,1,.T)]),.s 100009 7 8 72,.i 9 0]
 .ret)))
 (.q [.m 73 1,.L 74 2 12,.L 75 2 10,.op 76 (.build [.e,.i 0,.nils 1,.i 0,.nils 1,.i 0,.F] [(0,1,(.t 73)),(1,2,(.t 74)),(3,2,(.t 75)),(5,1,(.i 3))]),.s 100010 7 8 76,.i 9 0]
 .ret))))))⟩
theorem r_s_RowOf {Te:TE} (c_s_CellOf:C_s_CellOf Te) (c_s_l1In:C_s_l1In Te) (c_s_NameOk:C_s_NameOk Te):C_s_RowOf (RF Te x_s_RowOf):=by
 intro ph key cs s hk hs
 refine X0 x_s_RowOf.eq_1 ?_
 refine C0 (c_s_CellOf 0 s hs) ?_
 refine C0 (c_s_l1In _ _ _) ?_
 cases g1:win ph 0 7
 ·try simp -implicitDefEqProofs (maxSteps:=1000000) only [go_sem,rowOf,rowFine,g1,take_rows]
  repeat refine ⟨sc,?_⟩
  try exact sf
  try rfl
 refine G0 ?_
 refine C0 (c_s_NameOk key (by omega)) ?_
 cases g2:nameOk key
 ·try simp -implicitDefEqProofs (maxSteps:=1000000) only [go_sem,rowOf,rowFine,g1,g2,take_rows]
  repeat refine ⟨sc,?_⟩
  try exact sf
  try rfl
 refine G0 ?_
 refine C0 (c_s_l1In _ _ _) ?_
 cases g3:win cs 1 5
 ·try simp -implicitDefEqProofs (maxSteps:=1000000) only [go_sem,rowOf,rowFine,g1,g2,g3,take_rows]
  repeat refine ⟨sc,?_⟩
  try exact sf
  try rfl
 refine G0 ?_
 cases g4:(cellOf 0 s).2
 ·try simp -implicitDefEqProofs (maxSteps:=1000000) only [go_sem,rowOf,rowFine,g1,g2,g3,g4,take_rows]
  repeat refine ⟨sc,?_⟩
  try exact sf
  try rfl
 refine G1 g4 ?_
 refine C0 (c_s_CellOf cs s hs) ?_
 cases g5:(cellOf cs s).2 <;> cases p0:(ph==0) <;> cases p7:(ph==7) <;> cases p4:(ph==4) <;> cases p5:(ph==5) <;> cases p6:(ph==6)
 all_goals
  try simp -implicitDefEqProofs (maxSteps:=1000000) only [go_sem,rowOf,rowFine,g1,g2,g3,g4,g5,p0,p7,p4,p5,p6,take_rows]
  try rfl
def x_s_l13Lay:FnX:=⟨64,[],
  .q [.m 6 0,.op 7 (.nilc (.t 6)),.f 8 7 4,.L 9 3 8,.c 10 279 [9],.m 4 10]
 (.seq (.q [.i 5 0]
 (.block 0 (.loop [0,1,4,5] (.seq (.q [.m 11 5,.m 12 4,.n 13 12,.b 14 .lss 11 13]
 (.cond 14 .skip (.exit 0)))
 (.seq (.block 1 (.draw [.m 17 0,.op 18 (.nilc (.t 17)),.f 19 18 0,.m 20 1,.m 21 5,.c 22 193 [20,21],.m 23 1,.m 24 5,.m 25 4,.m 26 5,.x 27 13 25 26,.L 28 13 27,.c 29 194 [23,24,28],.op 30 (.call 192 [6,0,0] [(.t 19),(.t 22),(.t 29)])] [[],[0],[1],[],[],[3,4],[],[],[],[],[8,9],[10],[6,7,11,5],[2,5,12,12]]))
 (.reg [.m 15 5,.B 16 .add 15 1,.m 5 16]))))))
 (.norm [0,1,4] (.q [.m 31 0,.op 32 (.nilc (.t 31)),.f 33 32 0,.op 34 (.call 195 [6] [(.t 33)])]
 (.seq (.draw [.m 35 0,.op 36 (.nilc (.t 35)),.f 37 36 0,.m 38 1,.B 39 .rem 38 2,.m 40 1,.m 41 4,.n 42 41,.c 43 280 [40,42],.op 44 (.call 192 [6,0,0] [(.t 37),(.t 39),(.t 43)])] [[],[0],[1],[],[3],[],[],[6],[5,7],[2,4,8,8]])
 (.q [.m 45 0,.op 46 (.nilc (.t 45)),.f 47 46 0,.op 48 (.call 195 [6] [(.t 47)])]
 (.q [.m 49 0,.op 50 (.nilc (.t 49)),.f 51 50 0,.f 52 51 3,.l 53 52,.N 54 53]
 (.c 54 (.q [.m 55 0,.m 56 1,.op 57 (.nilc (.t 55)),.f 58 57 7,.s 100001 1 58 56]
 (.reg [.m 59 0,.m 60 4,.n 61 60,.op 62 (.nilc (.t 59)),.f 63 62 8,.s 100002 1 63 61])))))))))⟩
theorem r_s_l13Lay {Te:TE} (c_s_RecsOf:C_s_RecsOf Te) (c_s_l13At:C_s_l13At Te) (c_s_PutRec:C_s_PutRec Te) (c_s_l10Write:C_s_l10Write Te) (c_s_l10Flush:C_s_l10Flush Te) (c_s_HeadOf:C_s_HeadOf Te):C_s_l13Lay (RF Te x_s_l13Lay):=by
 intro s gen hd ht
 have hL:=ht.len (by decide)
 obtain ⟨hr1,hr2⟩:=recsOf_le ht
 obtain ⟨D0,T0,G0,P0⟩:=s
 simp only at hd ht hL hr1 hr2
 obtain ⟨E0,hE⟩:∃ E0,E0=D0:=⟨_,rfl⟩
 generalize hL0:(StoreV.mk D0 T0 G0 P0).lay gen=L0
 rw [← hE] at hL0
 refine X0 x_s_l13Lay.eq_1 ?_
 refine C0 (c_s_RecsOf T0 hL) ?_
 generalize eR:recsOf T0=R at hr1 hr2
 refine loop_of (σ:=Bool×Nat×DevV) (fun x=>cond x.1 (⟨[(0,.bp 0 0),(1,.one (.pv (.int .i64 gen))),(4,.one (.rf 66 0 [] 13 0 R.length)),(5,.one (.pv (.int .i64 x.2.1)))],[(0,[.rf 67 0 [] 1 0 x.2.2.Secs.length,.rf 67 1 [] 2 0 x.2.2.Cache.length,.pv (.int .i64 x.2.2.Fuse),.pv (.bool x.2.2.Down),.rf 0 4 [] 7 0 T0.Rows.length,.pv (.int .i64 T0.Phase),.rf 0 6 [] 3 0 T0.Marks.length,.pv (.int .i64 G0),.pv (.int .i64 P0)])],[(0,[.no (),.no (),iT D0.Fuse,bT D0.Down,slT true 7 (RowV.enc true) T0.Rows,iT T0.Phase,slT true 3 MarkV.row T0.Marks,iT G0,iT P0]),(1,[iT gen]),(66,[slT true 13 (RecV.enc true) R]),(67,x.2.2.enc true)]⟩) (⟨[(0,.bp 0 0),(1,.one (.pv (.int .i64 gen))),(4,.one (.rf 66 0 [] 13 0 R.length)),(5,.one (.pv (.int .i64 x.2.1)))],[(0,[.rf 0 0 [] 1 0 x.2.2.Secs.length,.rf 0 1 [] 2 0 x.2.2.Cache.length,.pv (.int .i64 x.2.2.Fuse),.pv (.bool x.2.2.Down),.rf 0 4 [] 7 0 T0.Rows.length,.pv (.int .i64 T0.Phase),.rf 0 6 [] 3 0 T0.Marks.length,.pv (.int .i64 G0),.pv (.int .i64 P0)])],[(0,(StoreV.mk D0 T0 G0 P0).enc true),(1,[iT gen]),(66,[slT true 13 (RecV.enc true) R])]⟩)) (fun x=>x.2.1≤R.length∧x.2.2=layN gen R E0 x.2.1∧x.2.2.ok=true∧(x.1=false→x.2.2=D0)) (fun x=>R.length - x.2.1) (false,0,D0) ?_ ⟨Nat.zero_le _,hE.symm,hd,fun _=>rfl⟩ ?_
 ·simp -implicitDefEqProofs (maxSteps:=1000000) only [go_sem]
  try rfl
 ·rintro ⟨b,i,D⟩ ⟨hi,hD,hk,hb⟩
  simp only at hi hD hk hb
  cases b
  all_goals try (have hb:=hb rfl; subst hb)
  all_goals
   have hcl:=(DevV.ok_iff D).1 hk
   cases q:decide ((i:Int) < (R.length:Int))
   ·have k0:i=R.length:=by simp only [decide_eq_false_iff_not] at q; omega
    have e:((D.flush).write (gen.tmod 2) (headOf gen R.length)).flush=layDev gen R E0:=by rw [hD,k0]; rfl
    have hh:=headOf_len gen R.length
    have f1:=flush_ok hk
    have f2:=write_ok f1 (gen.tmod 2) (headOf gen R.length)
    have hcl1:=(DevV.ok_iff _).1 f1
    have hcl2:=(DevV.ok_iff _).1 f2
    refine G1 q ?_
    refine C0 (c_s_l10Flush D (by omega) (DevV.ok_idx hk)) ?_
    refine C0 (c_s_HeadOf _ _) ?_
    refine .of (c_s_l10Write D.flush _ _ (by omega) (by omega)) ?_
    try simp -implicitDefEqProofs (maxSteps:=1000000) only [go_sem,take_all]
    repeat refine ⟨sc,?_⟩
    try exact sf
    refine .of (c_s_l10Flush _ (by omega) (DevV.ok_idx f2)) ?_
    try simp -implicitDefEqProofs (maxSteps:=1000000) only [go_sem,take_all]
    repeat refine ⟨sc,?_⟩
    try exact sf
    rw [e]
    cases g:(layDev gen R E0).Down
    ·have e2:L0=⟨layDev gen R E0,T0,gen,R.length⟩:=by rw [← hL0,← eR]; exact lay_up (by rw [eR]; exact g)
     try simp -implicitDefEqProofs (maxSteps:=1000000) only [go_sem,g,e2,take_all,StoreV.enc]
     repeat refine ⟨sc,?_⟩
     try exact sf
     try rfl
    ·have e2:L0=⟨layDev gen R E0,T0,G0,P0⟩:=by rw [← hL0,← eR]; exact lay_down (by rw [eR]; exact g)
     try simp -implicitDefEqProofs (maxSteps:=1000000) only [go_sem,g,e2,take_all,StoreV.enc]
     repeat refine ⟨sc,?_⟩
     try exact sf
     try rfl
   ·have k1:i < R.length:=by simp only [decide_eq_true_eq] at q; omega
    have hp:=putRec_len gen i R[i]
    have hin:=hr2 _ (List.getElem_mem k1)
    have es:=layN_step gen E0 k1
    rw [← hD] at es
    have eg:(R.map (RecV.enc true)).getD i []=R[i].enc true:=by rw [List.getD_eq_getElem?_getD,List.getElem?_map,List.getElem?_eq_getElem k1]; rfl
    refine G2 q (List.getElem?_eq_getElem k1) ?_
    refine C2 (c_s_l13At _ _) eg (List.getElem?_eq_getElem k1) ?_
    refine C0 (c_s_PutRec _ _ R[i] hin) ?_
    refine .of (c_s_l10Write D _ _ (by omega) (by omega)) ?_
    try simp -implicitDefEqProofs (maxSteps:=1000000) only [go_sem,take_all]
    repeat refine ⟨sc,?_⟩
    try exact sf
    refine ⟨(true,i + 1,D.write (secOf gen i) (putRec gen i R[i])),?_,⟨k1,es,write_ok hk _ _,fun h=>by cases h⟩,by simp only; omega⟩
    rw [IntWalk.i64_in _ (by omega)]
    rfl
def x_s_Format:FnX:=⟨7,[.cell 0 (some 9)],
  .q [.op 0 (.alloc [.nils 1,.nils 2,.i 0,.F,.nils 7,.i 0,.nils 3,.i 0,.i 0])]
 (.q [.op 2 (.call 210 [0] [(.i 62)]),.op 3 (.build [.nils 7,.i 0,.nils 3] []),.op 4 (.build [.nils 1,.nils 2,.i 0,.F,.nils 7,.i 0,.nils 3,.i 0,.i 0] [(0,4,(.t 2)),(4,3,(.t 3))]),.op 1 (.alloc [.nils 1,.nils 2,.i 0,.F,.nils 7,.i 0,.nils 3,.i 0,.i 0]),.s 100001 9 1 4]
 (.q [.op 5 (.call 191 [11,0] [(.t 1),(.i 1)])]
 (.q [.L 6 9 1,.s 100002 9 0 6]
 .ret)))⟩
theorem r_s_Format {Te:TE} (c_s_DevNew:C_s_DevNew Te) (c_s_l13Lay:C_s_l13Lay Te):C_s_Format (RF Te x_s_Format):=by
 refine X0 x_s_Format.eq_1 ?_
 refine C0 (c_s_DevNew 62) ?_
 exact D0 (c_s_l13Lay (StoreV.mk (devNew 62) TabV.zero 0 0) 1 devNew_ok (TabV.zero_in _))
def x_s_NodeNew:FnX:=⟨10,[.cell 2 (some 10)],
  .q [.op 2 (.alloc [.nils 1,.nils 2,.i 0,.F,.nils 7,.i 0,.nils 3,.i 0,.i 0,.i 0])]
 (.seq (.q [.m 3 0,.op 4 (.call 120 [0,0,0] [(.t 3),(.i 1),(.i 5)]),.N 5 4]
 (.c 5 (.q [.op 6 (.build [.nils 1,.nils 2,.i 0,.F,.nils 7,.i 0,.nils 3,.i 0,.i 0,.i 0] []),.s 100001 10 2 6]
 .ret)))
 (.q [.c 7 122 [],.m 8 0,.op 9 (.build [.nils 1,.nils 2,.i 0,.F,.nils 7,.i 0,.nils 3,.i 0,.i 0,.i 0] [(0,9,(.t 7)),(9,1,(.t 8))]),.s 100002 10 2 9]
 .ret))⟩
theorem r_s_NodeNew {Te:TE} (c_s_l1In:C_s_l1In Te) (c_s_Format:C_s_Format Te):C_s_NodeNew (RF Te x_s_NodeNew):=by
 intro cs
 refine X0 x_s_NodeNew.eq_1 ?_
 refine C0 (c_s_l1In _ _ _) ?_
 cases g:win cs 1 5
 ·have e:nodeNew cs=NodeV.zero:=by rw [nodeNew,g]; rfl
  exact F1 e
 ·have e:nodeNew cs=⟨fmt,cs⟩:=by rw [nodeNew,g]; rfl
  refine G0 ?_
  exact D1 (c_s_Format) e
def x_u_appendRuneNonASCII:FnX:=⟨78,[.tmp 4],
  .q [.op 4 (.mv (.k (.one (.nils 1))))]
 (.q [.m 6 1,.op 7 (.conv (.int .u32) (.t 6)),.m 5 7]
 (.block 0 (.q [.m 12 5,.op 13 (.bin .leq (.t 12) (.k (.one (.pv (.int .u32 2047))))),.m 11 13]
 (.cond 11 (.q [.m 14 0,.m 15 1,.op 16 (.bin .shr (.t 15) (.k (.one (.pv (.int .u64 6))))),.op 17 (.conv (.int .u8) (.t 16)),.op 18 (.bin .or (.k (.one (.pv (.int .u8 192)))) (.t 17)),.m 19 1,.op 20 (.conv (.int .u8) (.t 19)),.op 21 (.bin .and (.t 20) (.k (.one (.pv (.int .u8 63))))),.op 22 (.bin .or (.k (.one (.pv (.int .u8 128)))) (.t 21)),.op 23 (.bslice 1 [(.t 18),(.t 22)]),.op 24 (.app 1 1 (.t 14) (.t 23)),.m 4 24]
 .ret) (.seq (.q [.m 26 5,.op 27 (.bin .lss (.t 26) (.k (.one (.pv (.int .u32 55296))))),.m 25 27]
 (.cond 25 .skip (.reg [.m 28 5,.op 29 (.bin .lss (.k (.one (.pv (.int .u32 57343)))) (.t 28)),.m 30 29,.y 30 (.m 31 5),.y 30 (.op 32 (.bin .leq (.t 31) (.k (.one (.pv (.int .u32 65535)))))),.a 33 30 32,.m 25 33])))
 (.cond 25 (.q [.m 34 0,.m 35 1,.op 36 (.bin .shr (.t 35) (.k (.one (.pv (.int .u64 12))))),.op 37 (.conv (.int .u8) (.t 36)),.op 38 (.bin .or (.k (.one (.pv (.int .u8 224)))) (.t 37)),.m 39 1,.op 40 (.bin .shr (.t 39) (.k (.one (.pv (.int .u64 6))))),.op 41 (.conv (.int .u8) (.t 40)),.op 42 (.bin .and (.t 41) (.k (.one (.pv (.int .u8 63))))),.op 43 (.bin .or (.k (.one (.pv (.int .u8 128)))) (.t 42)),.m 44 1,.op 45 (.conv (.int .u8) (.t 44)),.op 46 (.bin .and (.t 45) (.k (.one (.pv (.int .u8 63))))),.op 47 (.bin .or (.k (.one (.pv (.int .u8 128)))) (.t 46)),.op 48 (.bslice 1 [(.t 38),(.t 43),(.t 47)]),.op 49 (.app 1 1 (.t 34) (.t 48)),.m 4 49]
 .ret) (.q [.m 51 5,.op 52 (.bin .gtr (.t 51) (.k (.one (.pv (.int .u32 65535))))),.m 53 52,.y 53 (.m 54 5),.y 53 (.op 55 (.bin .leq (.t 54) (.k (.one (.pv (.int .u32 1114111)))))),.a 56 53 55,.m 50 56]
 (.cond 50 (.q [.m 57 0,.m 58 1,.op 59 (.bin .shr (.t 58) (.k (.one (.pv (.int .u64 18))))),.op 60 (.conv (.int .u8) (.t 59)),.op 61 (.bin .or (.k (.one (.pv (.int .u8 240)))) (.t 60)),.m 62 1,.op 63 (.bin .shr (.t 62) (.k (.one (.pv (.int .u64 12))))),.op 64 (.conv (.int .u8) (.t 63)),.op 65 (.bin .and (.t 64) (.k (.one (.pv (.int .u8 63))))),.op 66 (.bin .or (.k (.one (.pv (.int .u8 128)))) (.t 65)),.m 67 1,.op 68 (.bin .shr (.t 67) (.k (.one (.pv (.int .u64 6))))),.op 69 (.conv (.int .u8) (.t 68)),.op 70 (.bin .and (.t 69) (.k (.one (.pv (.int .u8 63))))),.op 71 (.bin .or (.k (.one (.pv (.int .u8 128)))) (.t 70)),.m 72 1,.op 73 (.conv (.int .u8) (.t 72)),.op 74 (.bin .and (.t 73) (.k (.one (.pv (.int .u8 63))))),.op 75 (.bin .or (.k (.one (.pv (.int .u8 128)))) (.t 74)),.op 76 (.bslice 1 [(.t 61),(.t 66),(.t 71),(.t 75)]),.op 77 (.app 1 1 (.t 57) (.t 76)),.m 4 77]
 .ret) (.q [.m 8 0,.op 9 (.bslice 1 [(.k (.one (.pv (.int .u8 239)))),(.k (.one (.pv (.int .u8 191)))),(.k (.one (.pv (.int .u8 189))))]),.op 10 (.app 1 1 (.t 8) (.t 9)),.m 4 10]
 .ret)))))))))⟩
theorem r_u_appendRuneNonASCII {Te:TE}:C_u_appendRuneNonASCII (RF Te x_u_appendRuneNonASCII):=by
 intro b m hb hm
 refine run0 ?_
 obtain ⟨hq,h1,h2⟩:=hm
 replace hq:¬ m≤127:=by omega
 have w32:IntKind.u32.wrap (m:Int)=(m:Int):=by rw [IntKind.wrap_u32]; omega
 have d6:(m:Int).fdiv (2 ^ 6)=((m / 64:Nat):Int):=fdivN m 64
 have d12:(m:Int).fdiv (2 ^ 12)=((m / 4096:Nat):Int):=fdivN m 4096
 have d18:(m:Int).fdiv (2 ^ 18)=((m / 262144:Nat):Int):=fdivN m 262144
 have n6:Nat.min 6 32=6:=rfl
 have n12:Nat.min 12 32=12:=rfl
 have n18:Nat.min 18 32=18:=rfl
 have a0:andK .u8 (((mkU (m:Int)).toNat:Nat):Int) 63=((m % 64:Nat):Int):=by rw [mkU_toNat,and8 _ (by omega)]; omega
 have a6:andK .u8 (((mkU ((m / 64:Nat):Int)).toNat:Nat):Int) 63=((m / 64 % 64:Nat):Int):=by rw [mkU_toNat,and8 _ (by omega)]; omega
 have a12:andK .u8 (((mkU ((m / 4096:Nat):Int)).toNat:Nat):Int) 63=((m / 4096 % 64:Nat):Int):=by rw [mkU_toNat,and8 _ (by omega)]; omega
 have o0:orK .u8 128 ((m % 64:Nat):Int)=((UInt8.ofNat (128 + m % 64)).toNat:Int):=or8 128 6 2 rfl (by omega) (by omega)
 have o6:orK .u8 128 ((m / 64 % 64:Nat):Int)=((UInt8.ofNat (128 + m / 64 % 64)).toNat:Int):=or8 128 6 2 rfl (by omega) (by omega)
 have o12:orK .u8 128 ((m / 4096 % 64:Nat):Int)=((UInt8.ofNat (128 + m / 4096 % 64)).toNat:Int):=or8 128 6 2 rfl (by omega) (by omega)
 cases q2:decide ((m:Int)≤2047)
 ·have hq2:¬ m≤2047:=by simp only [decide_eq_false_iff_not] at q2; omega
  cases q3:decide ((m:Int)≤65535)
  ·have hq3:¬ m≤65535:=by simp only [decide_eq_false_iff_not] at q3; omega
   have t:orK .u8 240 (((mkU ((m / 262144:Nat):Int)).toNat:Nat):Int)=((UInt8.ofNat (240 + m / 262144)).toNat:Int):=by
    rw [mkU_toNat,Nat.mod_eq_of_lt (by omega)]; exact or8 240 3 30 rfl (by omega) (by omega)
   have ee:List.take (b.length + 4) (List.map uR b++[[uT (UInt8.ofNat (240 + m / 262144))],[uT (UInt8.ofNat (128 + m / 4096 % 64))],[uT (UInt8.ofNat (128 + m / 64 % 64))],[uT (UInt8.ofNat (128 + m % 64))]])=List.map uR (b++enc8 m):=by
    rw [List.take_of_length_le (by simp)]
    simp only [enc8,if_neg hq,if_neg hq2,if_neg hq3,List.map_append,List.map_cons,List.map_nil]
   have c1:decide ((m:Int) < 55296)=false:=decide_eq_false (by omega)
   have c2:decide ((57343:Int) < (m:Int))=true:=decide_eq_true (by omega)
   have c3:decide ((m:Int) > 65535)=true:=decide_eq_true (by omega)
   have c4:decide ((m:Int)≤1114111)=true:=decide_eq_true (by omega)
   simp -implicitDefEqProofs (maxSteps:=1000000) only [x_u_appendRuneNonASCII,go_sem,w32,q2,q3,c1,c2,c3,c4,n6,n12,n18,d6,d12,d18,mkU_wrap,a0,a6,a12,o0,o6,o12,t,ee]
   repeat refine ⟨sc,?_⟩
   try exact sf
  ·have hq3:m≤65535:=by simp only [decide_eq_true_eq] at q3; omega
   have t:orK .u8 224 (((mkU ((m / 4096:Nat):Int)).toNat:Nat):Int)=((UInt8.ofNat (224 + m / 4096)).toNat:Int):=by
    rw [mkU_toNat,Nat.mod_eq_of_lt (by omega)]; exact or8 224 4 14 rfl (by omega) (by omega)
   have ee:List.take (b.length + 3) (List.map uR b++[[uT (UInt8.ofNat (224 + m / 4096))],[uT (UInt8.ofNat (128 + m / 64 % 64))],[uT (UInt8.ofNat (128 + m % 64))]])=List.map uR (b++enc8 m):=by
    rw [List.take_of_length_le (by simp)]
    simp only [enc8,if_neg hq,if_neg hq2,if_pos hq3,List.map_append,List.map_cons,List.map_nil]
   cases c1:decide ((m:Int) < 55296)
   ·have c2:decide ((57343:Int) < (m:Int))=true:=decide_eq_true (by simp only [decide_eq_false_iff_not] at c1; omega)
    simp -implicitDefEqProofs (maxSteps:=1000000) only [x_u_appendRuneNonASCII,go_sem,w32,q2,q3,c1,c2,n6,n12,d6,d12,mkU_wrap,a0,a6,o0,o6,t,ee]
    repeat refine ⟨sc,?_⟩
    try exact sf
   ·simp -implicitDefEqProofs (maxSteps:=1000000) only [x_u_appendRuneNonASCII,go_sem,w32,q2,q3,c1,n6,n12,d6,d12,mkU_wrap,a0,a6,o0,o6,t,ee]
    repeat refine ⟨sc,?_⟩
    try exact sf
 ·have hq2:m≤2047:=by simp only [decide_eq_true_eq] at q2; omega
  have t:orK .u8 192 (((mkU ((m / 64:Nat):Int)).toNat:Nat):Int)=((UInt8.ofNat (192 + m / 64)).toNat:Int):=by
   rw [mkU_toNat,Nat.mod_eq_of_lt (by omega)]; exact or8 192 6 3 rfl (by omega) (by omega)
  have ee:List.take (b.length + 2) (List.map uR b++[[uT (UInt8.ofNat (192 + m / 64))],[uT (UInt8.ofNat (128 + m % 64))]])=List.map uR (b++enc8 m):=by
   rw [List.take_of_length_le (by simp)]
   simp only [enc8,if_neg hq,if_pos hq2,List.map_append,List.map_cons,List.map_nil]
  simp -implicitDefEqProofs (maxSteps:=1000000) only [x_u_appendRuneNonASCII,go_sem,w32,q2,n6,d6,mkU_wrap,a0,o0,t,ee]
  repeat refine ⟨sc,?_⟩
  try exact sf
def x_s_l10Copy:FnX:=⟨58,[.cell 2 (some 4)],
  .q [.v 1 0,.op 2 (.alloc [.nils 1,.nils 2,.i 0,.F])]
 (.q [.f 6 1 2,.l 7 6,.f 8 1 3,.l 9 8,.op 10 (.build [.nils 1,.nils 2,.i 0,.F] [(2,1,(.t 7)),(3,1,(.t 9))]),.op 3 (.alloc [.nils 1,.nils 2,.i 0,.F]),.s 100001 4 3 10]
 (.seq (.q [.i 4 0]
 (.up 3 1 300001 (.up 3 0 300000 (.block 0 (.loop [1,2,3,4] (.seq (.q [.m 11 4,.f 12 1 0,.l 13 12,.n 14 13,.b 15 .lss 11 14]
 (.cond 15 .skip (.exit 0)))
 (.seq (.block 1 (.draw [.f 18 3 0,.l 19 18,.op 20 (.bslice 1 []),.f 21 1 0,.l 22 21,.m 23 4,.x 24 1 22 23,.l 25 24,.op 26 (.app 1 1 (.t 20) (.t 25)),.op 27 (.bslice 1 [(.t 26)]),.op 28 (.app 1 24 (.t 19) (.t 27)),.f 29 3 0,.s 100002 1 29 28] [[],[0],[],[],[3],[],[4,5],[6],[2,7],[8],[1,9,8],[0,1,2,3,4,5,6,7,8,9,10],[11,10,10,0,1,2,3,4,5,6,7,8,9,10]]))
 (.reg [.m 16 4,.B 17 .add 16 1,.m 4 17]))))))))
 (.norm [1,2,3] (.seq (.q [.i 5 0]
 (.block 2 (.loop [1,2,3,5] (.seq (.q [.m 30 5,.f 31 1 1,.l 32 31,.n 33 32,.b 34 .lss 30 33]
 (.cond 34 .skip (.exit 2)))
 (.seq (.block 3 (.draw [.f 37 3 1,.l 38 37,.f 39 1 1,.l 40 39,.m 41 5,.x 42 2 40 41,.f 43 42 0,.l 44 43,.op 45 (.bslice 1 []),.f 46 1 1,.l 47 46,.m 48 5,.x 49 2 47 48,.f 50 49 1,.l 51 50,.op 52 (.app 1 1 (.t 45) (.t 51)),.op 53 (.build [.i 0,.nils 1] [(0,1,(.t 44)),(1,1,(.t 52))]),.op 54 (.bslice 2 [(.t 53)]),.op 55 (.app 2 32 (.t 38) (.t 54)),.f 56 3 1,.s 100003 1 56 55] [[],[0],[],[2],[],[3,4],[5],[6],[],[],[9],[],[10,11],[12],[13],[8,14],[7,15],[16],[1,17,15],[0,1,2,3,4,5,6,7,8,9,10,11,12,13,14,15,16,17,18],[19,18,18,0,1,2,3,4,5,6,7,8,9,10,11,12,13,14,15,16,17,18]]))
 (.reg [.m 35 5,.B 36 .add 35 1,.m 5 36]))))))
 (.norm [2,3] (.q [.L 57 4 3,.s 100004 4 2 57]
 .ret))))))⟩
theorem r_s_l10Copy {Te:TE}:C_s_l10Copy (RF Te x_s_l10Copy):=by
 intro d h
 obtain ⟨⟨hS,hSl⟩,hC,hCl⟩:=h
 refine X0 x_s_l10Copy.eq_1 ?_
 refine loop_of (σ:=Nat×List (List UInt8)) (fun x=>⟨[(1,.bp 1 0),(2,.bp 2 0),(3,.bp 3 0),(4,.one (.pv (.int .i64 x.1)))],[(1,[.ro 1 (d.Secs.map (secR false)),.ro 2 (d.Cache.map (WrV.enc false)),.pv (.int .i64 d.Fuse),.pv (.bool d.Down)]),(2,[.nils 1,.nils 2,.pv (.int .i64 0),.pv (.bool false)]),(3,[.rf 59 0 [] 1 0 x.2.length,.rf 60 0 [] 2 0 0,.pv (.int .i64 d.Fuse),.pv (.bool d.Down)])],[(0,d.enc false),(59,[slT true 1 (secR true) x.2]),(60,[slT true 2 (WrV.enc true) []])]⟩) (fun x=>x.1≤d.Secs.length∧x.2=d.Secs.take x.1) (fun x=>d.Secs.length - x.1) (0,[]) ?_ ⟨Nat.zero_le _,rfl⟩ ?_
 ·simp -implicitDefEqProofs (maxSteps:=1000000) only [go_sem]
  try rfl
 ·rintro ⟨i,l⟩ ⟨hi,he⟩
  simp only at hi he
  have hl:l.length=i:=by rw [he,List.length_take]; omega
  cases q:decide ((i:Int) < (d.Secs.length:Int))
  ·have k0:i=d.Secs.length:=by simp only [decide_eq_false_iff_not] at q; omega
   rw [k0,List.take_length] at he
   subst he
   refine G1 q ?_
   refine loop_of (σ:=Nat×List WrV) (fun x=>⟨[(1,.bp 1 0),(2,.bp 2 0),(3,.bp 3 0),(5,.one (.pv (.int .i64 x.1)))],[(1,[.ro 1 (d.Secs.map (secR false)),.ro 2 (d.Cache.map (WrV.enc false)),.pv (.int .i64 d.Fuse),.pv (.bool d.Down)]),(2,[.nils 1,.nils 2,.pv (.int .i64 0),.pv (.bool false)]),(3,[.rf 59 0 [] 1 0 d.Secs.length,.rf 60 0 [] 2 0 x.2.length,.pv (.int .i64 d.Fuse),.pv (.bool d.Down)])],[(0,d.enc false),(59,[slT true 1 (secR true) d.Secs]),(60,[slT true 2 (WrV.enc true) x.2])]⟩) (fun x=>x.1≤d.Cache.length∧x.2=d.Cache.take x.1) (fun x=>d.Cache.length - x.1) (0,[]) ?_ ⟨Nat.zero_le _,rfl⟩ ?_
   ·simp -implicitDefEqProofs (maxSteps:=1000000) only [go_sem]
    try rfl
   ·rintro ⟨j,m⟩ ⟨hj,hm⟩
    simp only at hj hm
    have hml:m.length=j:=by rw [hm,List.length_take]; omega
    cases q2:decide ((j:Int) < (d.Cache.length:Int))
    ·have k2:j=d.Cache.length:=by simp only [decide_eq_false_iff_not] at q2; omega
     rw [k2,List.take_length] at hm
     subst hm
     exact F1 q2
    ·have k2:j < d.Cache.length:=by simp only [decide_eq_true_eq] at q2; omega
     have hb:d.Cache[j].B.length≤2 ^ 21:=hCl _ (List.getElem_mem k2)
     have ea:=app1W m d.Cache[j]
     refine G3 q2 (List.getElem?_eq_getElem k2) ea ?_
     refine ⟨(j + 1,m++[d.Cache[j]]),?_,⟨k2,by rw [hm,List.take_succ_eq_append_getElem k2]⟩,by simp only; omega⟩
     rw [IntWalk.i64_in _ (by omega)]
     simp only [List.length_append]
     rfl
  ·have k1:i < d.Secs.length:=by simp only [decide_eq_true_eq] at q; omega
   have hb:d.Secs[i].length≤2 ^ 21:=hSl _ (List.getElem_mem k1)
   have ea:=app1S l d.Secs[i]
   refine G3 q (List.getElem?_eq_getElem k1) ea ?_
   refine ⟨(i + 1,l++[d.Secs[i]]),?_,⟨k1,by rw [he,List.take_succ_eq_append_getElem k1]⟩,by simp only; omega⟩
   rw [IntWalk.i64_in _ (by omega)]
   simp only [List.length_append]
   rfl
def x_i_copyTab:FnX:=⟨29,[.cell 2 (some 3)],
  .q [.v 1 0,.op 2 (.alloc [.nils 7,.i 0,.nils 3])]
 (.seq (.draw [.f 6 1 1,.l 7 6,.op 8 (.bslice 3 []),.f 9 1 2,.l 10 9,.op 11 (.app 3 24 (.t 8) (.t 10)),.op 12 (.build [.nils 7,.i 0,.nils 3] [(1,1,(.t 7)),(2,1,(.t 11))]),.op 3 (.alloc [.nils 7,.i 0,.nils 3]),.s 100001 3 3 12] [[],[0],[],[],[3],[2,4],[1,5],[],[7,6,5,0,1,2,3,4,5,6,7]])
 (.seq (.q [.f 13 1 0,.l 14 13,.n 15 14,.i 16 0]
 (.up 3 0 300000 (.block 0 (.loop [2,3,14,15,16] (.q [.b 17 .lss 16 15]
 (.seq (.cond 17 .skip (.exit 0))
 (.seq (.block 1 (.q [.x 18 7 14 16,.L 19 7 18,.op 5 (.alloc [.e,.i 0,.nils 1,.i 0,.nils 1,.i 0,.F]),.s 100002 7 5 19]
 (.draw [.f 20 3 0,.l 21 20,.L 22 7 5,.c 23 252 [22],.op 24 (.bslice 7 [(.t 23)]),.op 25 (.app 7 96 (.t 21) (.t 24)),.f 26 3 0,.s 100003 1 26 25] [[],[0],[],[2],[3],[1,4,3],[0,1,2,3,4,5],[6,5,5,0,1,2,3,4,5]])))
 (.reg [.B 27 .add 16 1,.m 16 27]))))))))
 (.norm [2,3] (.q [.L 28 3 3,.s 100004 3 2 28]
 .ret))))⟩
theorem r_i_copyTab {Te:TE} (c_i_copyRow:C_i_copyRow Te):C_i_copyTab (RF Te x_i_copyTab):=by
 intro t h
 obtain ⟨⟨hR,hRl⟩,hM⟩:=h
 refine X0 x_i_copyTab.eq_1 ?_
 refine loop_of (σ:=Nat×List RowV) (fun x=>⟨[(2,.bp 2 0),(3,.bp 3 0),(14,.one (.ro 7 (t.Rows.map (RowV.enc false)))),(15,.one (.pv (.int .i64 t.Rows.length))),(16,.one (.pv (.int .i64 x.1)))],[(2,[.nils 7,.pv (.int .i64 0),.nils 3]),(3,[.rf 30 0 [] 7 0 x.2.length,.pv (.int .i64 t.Phase),.rf 31 0 [] 3 0 t.Marks.length])],[(0,t.enc false),(30,[slT true 7 (RowV.enc true) x.2]),(31,[slT true 3 MarkV.row t.Marks])]⟩) (fun x=>x.1≤t.Rows.length∧x.2=t.Rows.take x.1) (fun x=>t.Rows.length - x.1) (0,[]) ?_ ⟨Nat.zero_le _,rfl⟩ ?_
 ·simp -implicitDefEqProofs (maxSteps:=1000000) only [go_sem]
  try rfl
 ·rintro ⟨i,l⟩ ⟨hi,he⟩
  simp only at hi he
  have hl:l.length=i:=by rw [he,List.length_take]; omega
  cases q:decide ((i:Int) < (t.Rows.length:Int))
  ·have k0:i=t.Rows.length:=by simp only [decide_eq_false_iff_not] at q; omega
   rw [k0,List.take_length] at he
   subst he
   exact F1 q
  ·have k1:i < t.Rows.length:=by simp only [decide_eq_true_eq] at q; omega
   have ea:=app1Rw l t.Rows[i]
   refine G2 q (List.getElem?_eq_getElem k1) ?_
   refine C1 (c_i_copyRow t.Rows[i] (hRl _ (List.getElem_mem k1))) ea ?_
   refine ⟨(i + 1,l++[t.Rows[i]]),?_,⟨k1,by rw [he,List.take_succ_eq_append_getElem k1]⟩,by simp only; omega⟩
   rw [IntWalk.i64_in _ (by omega)]
   simp only [List.length_append]
   rfl
def x_s_l11Who:FnX:=⟨32,[.tmp 2],
  .q [.v 1 0,.F 2]
 (.seq (.q [.f 3 1 10,.l 4 3,.B 5 .eql 4 0]
 (.c 5 (.q [.f 6 1 11,.l 7 6,.B 8 .eql 7 0,.m 9 8,.y 9 (.f 10 1 12),.y 9 (.l 11 10),.y 9 (.B 12 .eql 11 0),.a 13 9 12,.m 14 13,.y 14 (.f 15 1 0),.y 14 (.l 16 15),.y 14 (.B 17 .neq 16 4),.a 18 14 17,.m 2 18]
 .ret)))
 (.q [.f 19 1 10,.l 20 19,.op 21 (.call 120 [0,0,0] [(.t 20),(.i 1),(.i 9)]),.m 22 21,.y 22 (.f 23 1 11),.y 22 (.l 24 23),.y 22 (.c 25 161 [24]),.a 26 22 25,.m 27 26,.y 27 (.f 28 1 12),.y 27 (.l 29 28),.y 27 (.op 30 (.call 120 [0,0,0] [(.t 29),(.i 0),(.i 6)])),.a 31 27 30,.m 2 31]
 .ret))⟩
theorem r_s_l11Who {Te:TE} (c_s_l1In:C_s_l1In Te) (c_s_l1Word:C_s_l1Word Te):C_s_l11Who (RF Te x_s_l11Who):=by
 intro r
 refine X0 x_s_l11Who.eq_1 ?_
 cases g0:(r.Who==0)
 ·refine G1 g0 ?_
  refine C0 (c_s_l1In _ _ _) ?_
  cases g1:win r.Who 1 9
  ·try simp -implicitDefEqProofs (maxSteps:=1000000) only [go_sem,RecV.who,g0,g1]
   repeat refine ⟨sc,?_⟩
   try exact sf
  refine G0 ?_
  refine C0 (c_s_l1Word _) ?_
  cases g2:win r.Seq 0 65535
  ·try simp -implicitDefEqProofs (maxSteps:=1000000) only [go_sem,RecV.who,g0,g1,g2]
   repeat refine ⟨sc,?_⟩
   try exact sf
  refine G0 ?_
  refine .of (c_s_l1In _ _ _) ?_
  try simp -implicitDefEqProofs (maxSteps:=1000000) only [go_sem,RecV.who,g0,g1,g2]
  repeat refine ⟨sc,?_⟩
  try exact sf
 ·refine G1 g0 ?_
  cases g1:(r.Seq==0)
  ·try simp -implicitDefEqProofs (maxSteps:=1000000) only [go_sem,RecV.who,g0,g1]
   repeat refine ⟨sc,?_⟩
   try exact sf
  refine G1 g1 ?_
  cases g2:(r.Code==0)
  ·try simp -implicitDefEqProofs (maxSteps:=1000000) only [go_sem,RecV.who,g0,g1,g2]
   repeat refine ⟨sc,?_⟩
   try exact sf
  try simp -implicitDefEqProofs (maxSteps:=1000000) only [go_sem,RecV.who,g0,g1,g2]
  repeat refine ⟨sc,?_⟩
  try exact sf
def x_s_RecOk:FnX:=⟨48,[.tmp 2],
  .q [.v 1 0,.F 2]
 (.q [.f 6 1 1,.L 7 7 6,.c 8 334 [7],.m 3 8]
 (.q [.f 9 1 8,.l 10 9,.op 11 (.bin .eql (.t 10) (.k (.one (.pv (.string ⟨#[]⟩))))),.m 4 11]
 (.q [.f 12 1 9,.l 13 12,.B 14 .eql 13 0,.m 5 14]
 (.seq (.q [.f 15 1 0,.l 16 15]
 (.block 0 (.q [.B 18 .eql 16 1,.m 17 18]
 (.cond 17 (.reg [.f 19 1 1,.L 20 7 19,.c 21 289 [20],.m 3 21]) (.q [.B 23 .eql 16 2,.m 22 23]
 (.cond 22 (.reg [.f 24 1 8,.l 25 24,.c 26 101 [25],.m 4 26]) (.q [.B 28 .eql 16 3,.m 27 28]
 (.c 27 (.reg [.f 29 1 9,.l 30 29,.op 31 (.call 120 [0,0,0] [(.t 30),(.i 0),(.i 7)]),.m 5 31])))))))))
 (.q [.f 32 1 0,.l 33 32,.op 34 (.call 120 [0,0,0] [(.t 33),(.i 1),(.i 4)]),.m 35 34,.y 35 (.m 36 3),.a 37 35 36,.m 38 37,.y 38 (.m 39 4),.a 40 38 39,.m 41 40,.y 41 (.m 42 5),.a 43 41 42,.m 44 43,.y 44 (.L 45 13 1),.y 44 (.c 46 335 [45]),.a 47 44 46,.m 2 47]
 .ret)))))⟩
theorem r_s_RecOk {Te:TE} (c_s_l11NoRow:C_s_l11NoRow Te) (c_s_RowOk:C_s_RowOk Te) (c_s_NameOk:C_s_NameOk Te) (c_s_l1In:C_s_l1In Te) (c_s_l11Who:C_s_l11Who Te):C_s_RecOk (RF Te x_s_RecOk):=by
 intro r h
 refine run0 ?_
 have hR:=h.1
 have hK:=h.2
 simp -implicitDefEqProofs (maxSteps:=1000000) only [x_s_RecOk,go_sem,bytes_beq]
 repeat refine ⟨sc,?_⟩
 try exact sf
 refine .of (c_s_l11NoRow r.R) ?_
 try simp -implicitDefEqProofs (maxSteps:=1000000) only [go_sem,bytes_beq]
 repeat refine ⟨sc,?_⟩
 try exact sf
 cases gk:win r.Kind 1 4
 ·obtain ⟨k1,k2,k3,k4⟩:=kind_win gk
  refine G3 k1 k2 k3 ?_
  refine .of (c_s_l1In _ _ _) ?_
  try simp -implicitDefEqProofs (maxSteps:=1000000) only [go_sem,gk,RecV.ok,RecV.body,k1,k2,k3,k4]
  repeat refine ⟨sc,?_⟩
  try exact sf
 obtain ⟨kind,R,key,n,who,seq,code⟩:=r
 simp only at gk hR hK
 rcases win_kind gk with rfl | rfl | rfl | rfl
 ·skip
  refine G0 ?_
  refine C0 (c_s_RowOk R hR) ?_
  refine C1 (c_s_l1In _ _ _) gk ?_
  cases g1:R.ok
  ·try simp -implicitDefEqProofs (maxSteps:=1000000) only [go_sem,RecV.ok,RecV.body,g1]
   repeat refine ⟨sc,?_⟩
   try exact sf
  refine G0 ?_
  cases g2:decide (key=⟨#[]⟩)
  ·try simp -implicitDefEqProofs (maxSteps:=1000000) only [go_sem,RecV.ok,RecV.body,g1,g2]
   repeat refine ⟨sc,?_⟩
   try exact sf
  refine G0 ?_
  cases g3:(n==0)
  ·try simp -implicitDefEqProofs (maxSteps:=1000000) only [go_sem,RecV.ok,RecV.body,g1,g2,g3]
   repeat refine ⟨sc,?_⟩
   try exact sf
  refine G0 ?_
  refine .of (c_s_l11Who ⟨1,R,key,n,who,seq,code⟩) ?_
  try simp -implicitDefEqProofs (maxSteps:=1000000) only [go_sem,RecV.ok,RecV.body,g1,g2,g3]
  repeat refine ⟨sc,?_⟩
  try exact sf
 ·skip
  refine G0 ?_
  refine C0 (c_s_NameOk key hK) ?_
  refine C1 (c_s_l1In _ _ _) gk ?_
  cases g1:R.no
  ·try simp -implicitDefEqProofs (maxSteps:=1000000) only [go_sem,RecV.ok,RecV.body,g1]
   repeat refine ⟨sc,?_⟩
   try exact sf
  refine G0 ?_
  cases g2:nameOk key
  ·try simp -implicitDefEqProofs (maxSteps:=1000000) only [go_sem,RecV.ok,RecV.body,g1,g2]
   repeat refine ⟨sc,?_⟩
   try exact sf
  refine G0 ?_
  cases g3:(n==0)
  ·try simp -implicitDefEqProofs (maxSteps:=1000000) only [go_sem,RecV.ok,RecV.body,g1,g2,g3]
   repeat refine ⟨sc,?_⟩
   try exact sf
  refine G0 ?_
  refine .of (c_s_l11Who ⟨2,R,key,n,who,seq,code⟩) ?_
  try simp -implicitDefEqProofs (maxSteps:=1000000) only [go_sem,RecV.ok,RecV.body,g1,g2,g3]
  repeat refine ⟨sc,?_⟩
  try exact sf
 ·skip
  refine G0 ?_
  refine C0 (c_s_l1In _ _ _) ?_
  refine C1 (c_s_l1In _ _ _) gk ?_
  cases g1:R.no
  ·try simp -implicitDefEqProofs (maxSteps:=1000000) only [go_sem,RecV.ok,RecV.body,g1]
   repeat refine ⟨sc,?_⟩
   try exact sf
  refine G0 ?_
  cases g2:decide (key=⟨#[]⟩)
  ·try simp -implicitDefEqProofs (maxSteps:=1000000) only [go_sem,RecV.ok,RecV.body,g1,g2]
   repeat refine ⟨sc,?_⟩
   try exact sf
  refine G0 ?_
  cases g3:win n 0 7
  ·try simp -implicitDefEqProofs (maxSteps:=1000000) only [go_sem,RecV.ok,RecV.body,g1,g2,g3]
   repeat refine ⟨sc,?_⟩
   try exact sf
  refine G0 ?_
  refine .of (c_s_l11Who ⟨3,R,key,n,who,seq,code⟩) ?_
  try simp -implicitDefEqProofs (maxSteps:=1000000) only [go_sem,RecV.ok,RecV.body,g1,g2,g3]
  repeat refine ⟨sc,?_⟩
  try exact sf
 ·skip
  refine G0 ?_
  refine C1 (c_s_l1In _ _ _) gk ?_
  cases g1:R.no
  ·try simp -implicitDefEqProofs (maxSteps:=1000000) only [go_sem,RecV.ok,RecV.body,g1]
   repeat refine ⟨sc,?_⟩
   try exact sf
  refine G0 ?_
  cases g2:decide (key=⟨#[]⟩)
  ·try simp -implicitDefEqProofs (maxSteps:=1000000) only [go_sem,RecV.ok,RecV.body,g1,g2]
   repeat refine ⟨sc,?_⟩
   try exact sf
  refine G0 ?_
  cases g3:(n==0)
  ·try simp -implicitDefEqProofs (maxSteps:=1000000) only [go_sem,RecV.ok,RecV.body,g1,g2,g3]
   repeat refine ⟨sc,?_⟩
   try exact sf
  refine G0 ?_
  refine .of (c_s_l11Who ⟨4,R,key,n,who,seq,code⟩) ?_
  try simp -implicitDefEqProofs (maxSteps:=1000000) only [go_sem,RecV.ok,RecV.body,g1,g2,g3]
  repeat refine ⟨sc,?_⟩
  try exact sf
def x_i_EucSign:FnX:=⟨54,[.tmp 4,.tmp 5,.tmp 6],
  .q [.i 4 0,.i 5 0,.F 6]
 (.seq (.q [.m 9 1,.B 10 .lss 9 0,.m 11 10,.z 11 (.m 12 1),.z 11 (.m 13 0),.z 11 (.n 14 13),.z 11 (.b 15 .geq 12 14),.r 16 11 15]
 (.c 16 (.q [.i 4 0,.i 5 0,.F 6]
 .ret)))
 (.seq (.q [.m 17 0,.m 18 1,.x 19 1 17 18,.l 20 19,.op 21 (.bin .leq (.t 20) (.k (.one (.pv (.int .u8 127)))))]
 (.c 21 (.q [.m 22 0,.m 23 1,.x 24 1 22 23,.l 25 24,.op 26 (.conv (.int .i64) (.t 25)),.m 27 1,.B 28 .add 27 1,.m 4 26,.m 5 28,.T 6]
 .ret)))
 (.seq (.q [.m 29 1,.B 30 .add 29 1,.m 31 0,.n 32 31,.b 33 .eql 30 32]
 (.c 33 (.q [.i 4 0,.i 5 0,.F 6]
 .ret)))
 (.seq (.draw [.m 35 0,.m 36 1,.x 37 1 35 36,.l 38 37,.op 39 (.conv (.int .i64) (.t 38)),.m 40 0,.m 41 1,.B 42 .add 41 1,.x 43 1 40 42,.l 44 43,.op 45 (.conv (.int .i64) (.t 44)),.c 46 324 [39,45],.m 34 46,.e 47 34 0,.e 48 34 1,.m 7 47,.m 8 48] [[],[],[0,1],[2],[3],[],[],[6],[5,7],[8],[9],[4,10],[11],[12],[12],[13,11,0,1,2,3,4,5,6,7,8,9,10,11,12,13],[14,15,0,1,2,3,4,5,6,7,8,9,10,11,12,13,14,15]])
 (.seq (.q [.m 49 8,.N 50 49]
 (.c 50 (.q [.i 4 0,.i 5 0,.F 6]
 .ret)))
 (.q [.m 51 7,.m 52 1,.B 53 .add 52 2,.m 4 51,.m 5 53,.T 6]
 .ret))))))⟩
theorem r_i_EucSign {Te:TE} (c_i_PairSign:C_i_PairSign Te):C_i_EucSign (RF Te x_i_EucSign):=by
 intro b i hb
 refine run0 ?_
 by_cases hi:0≤i∧i < b.length
 ·obtain ⟨k,rfl⟩:∃ k:Nat,i=k:=⟨i.toNat,by omega⟩
  have hk:k < b.length:=by omega
  have eb:b[k].toNat=byteN (b.drop k) 0:=byteN_drop (j:=0) hk
  have hlt:=byteN_lt (b.drop k) 0
  have hlt1:=byteN_lt (b.drop k) 1
  have w3:IntKind.i64.wrap ((byteN (b.drop k) 0:Nat):Int)=(byteN (b.drop k) 0:Nat):=IntWalk.i64_in _ (by omega)
  have w4:IntKind.i64.wrap ((byteN (b.drop k) 1:Nat):Int)=(byteN (b.drop k) 1:Nat):=IntWalk.i64_in _ (by omega)
  have w5:IntKind.i64.wrap ((k:Int) + 1)=(k:Int) + 1:=IntWalk.i64_in _ (by omega)
  have w6:IntKind.i64.wrap ((k:Int) + 2)=(k:Int) + 2:=IntWalk.i64_in _ (by omega)
  have w7:((k:Int) + 1).toNat=k + 1:=by omega
  have q8:decide ((k:Int) < 0)=false:=decide_eq_false (by omega)
  have q9:decide ((k:Int)≥(b.length:Int))=false:=decide_eq_false (by omega)
  cases q:decide (((byteN (b.drop k) 0:Nat):Int)≤127)
  ·have h1:¬ byteN (b.drop ((k:Nat):Int).toNat) 0 < 128:=by rw [Int.toNat_natCast]; simp only [decide_eq_false_iff_not] at q; omega
   cases q2:((k:Int) + 1==(b.length:Int))
   ·have h3:(k:Int) + 1 < b.length:=by
     have:(k:Int) + 1≠(b.length:Int):=by simpa using q2
     omega
    have hk1:k + 1 < b.length:=by omega
    have eb1:b[k + 1].toNat=byteN (b.drop k) 1:=byteN_drop (j:=1) hk1
    simp -implicitDefEqProofs (maxSteps:=1000000) only [x_i_EucSign,go_sem,q,q2,q8,q9,List.getElem?_eq_getElem hk,eb,w3,w5,w7,List.getElem?_eq_getElem hk1,eb1,w4]
    repeat refine ⟨sc,?_⟩
    try exact sf
    refine .of (c_i_PairSign _ _ (by omega)) ?_
    try simp -implicitDefEqProofs (maxSteps:=1000000) only [go_sem]
    repeat refine ⟨sc,?_⟩
    try exact sf
    cases q3:(pairSign ((byteN (b.drop k) 0:Nat):Int) ((byteN (b.drop k) 1:Nat):Int)).2
    ·have e:=euc_bad hi h1 q3
     exact F2 q3 e
    ·have e:=euc_two hi h1 h3 q3
     exact F3 q3 e w6
   ·have e:=euc_end hi h1 (by have:=eq_of_beq q2; omega)
    simp -implicitDefEqProofs (maxSteps:=1000000) only [x_i_EucSign,go_sem,q,q2,q8,q9,List.getElem?_eq_getElem hk,eb,w3,w5,e]
    repeat refine ⟨sc,?_⟩
    try exact sf
  ·have e:=euc_one hi (by rw [Int.toNat_natCast]; simp only [decide_eq_true_eq] at q; omega)
   simp -implicitDefEqProofs (maxSteps:=1000000) only [x_i_EucSign,go_sem,q,q8,q9,List.getElem?_eq_getElem hk,eb,w3,w5,e]
   repeat refine ⟨sc,?_⟩
   try exact sf
 ·have e:=euc_no hi
  cases q8:decide (i < 0)
  ·have q9:decide (i≥(b.length:Int))=true:=by simp only [decide_eq_false_iff_not] at q8; exact decide_eq_true (by omega)
   simp -implicitDefEqProofs (maxSteps:=1000000) only [x_i_EucSign,go_sem,q8,q9,e]
   repeat refine ⟨sc,?_⟩
   try exact sf
  ·simp -implicitDefEqProofs (maxSteps:=1000000) only [x_i_EucSign,go_sem,q8,e]
   repeat refine ⟨sc,?_⟩
   try exact sf
def x_s_EucSign:FnX:=⟨52,[.tmp 4,.tmp 5,.tmp 6],
  .q [.i 4 0,.i 5 0,.F 6]
 (.seq (.q [.m 9 1,.m 10 0,.n 11 10,.B 12 .sub 11 1,.op 13 (.call 120 [0,0,0] [(.t 9),(.i 0),(.t 12)]),.N 14 13]
 (.c 14 (.q [.i 4 0,.i 5 0,.F 6]
 .ret)))
 (.seq (.q [.m 15 0,.m 16 1,.x 17 1 15 16,.l 18 17,.op 19 (.bin .lss (.t 18) (.k (.one (.pv (.int .u8 128)))))]
 (.c 19 (.q [.m 20 0,.m 21 1,.x 22 1 20 21,.l 23 22,.op 24 (.conv (.int .i64) (.t 23)),.m 25 1,.B 26 .add 25 1,.m 4 24,.m 5 26,.T 6]
 .ret)))
 (.seq (.q [.m 27 1,.B 28 .add 27 1,.m 29 0,.n 30 29,.b 31 .geq 28 30]
 (.c 31 (.q [.i 4 0,.i 5 0,.F 6]
 .ret)))
 (.seq (.draw [.m 33 0,.m 34 1,.x 35 1 33 34,.l 36 35,.op 37 (.conv (.int .i64) (.t 36)),.m 38 0,.m 39 1,.B 40 .add 39 1,.x 41 1 38 40,.l 42 41,.op 43 (.conv (.int .i64) (.t 42)),.c 44 330 [37,43],.m 32 44,.e 45 32 0,.e 46 32 1,.m 7 45,.m 8 46] [[],[],[0,1],[2],[3],[],[],[6],[5,7],[8],[9],[4,10],[11],[12],[12],[13,11,0,1,2,3,4,5,6,7,8,9,10,11,12,13],[14,15,0,1,2,3,4,5,6,7,8,9,10,11,12,13,14,15]])
 (.seq (.q [.m 47 8,.N 48 47]
 (.c 48 (.q [.i 4 0,.i 5 0,.F 6]
 .ret)))
 (.q [.m 49 7,.m 50 1,.B 51 .add 50 2,.m 4 49,.m 5 51,.T 6]
 .ret))))))⟩
theorem r_s_EucSign {Te:TE} (c_s_l1In:C_s_l1In Te) (c_s_PairSign:C_s_PairSign Te):C_s_EucSign (RF Te x_s_EucSign):=by
 intro b i hb
 have w1:IntKind.i64.wrap ((b.length:Int) - 1)=(b.length:Int) - 1:=IntWalk.i64_in _ (by omega)
 by_cases hi:0≤i∧i < b.length
 ·obtain ⟨k,rfl⟩:∃ k:Nat,i=k:=⟨i.toNat,by omega⟩
  have hk:k < b.length:=by omega
  have eb:b[k].toNat=byteN (b.drop k) 0:=byteN_drop (j:=0) hk
  have hlt:=byteN_lt (b.drop k) 0
  have hlt1:=byteN_lt (b.drop k) 1
  have w3:IntKind.i64.wrap ((byteN (b.drop k) 0:Nat):Int)=(byteN (b.drop k) 0:Nat):=IntWalk.i64_in _ (by omega)
  have w4:IntKind.i64.wrap ((byteN (b.drop k) 1:Nat):Int)=(byteN (b.drop k) 1:Nat):=IntWalk.i64_in _ (by omega)
  have w5:IntKind.i64.wrap ((k:Int) + 1)=(k:Int) + 1:=IntWalk.i64_in _ (by omega)
  have w6:IntKind.i64.wrap ((k:Int) + 2)=(k:Int) + 2:=IntWalk.i64_in _ (by omega)
  have w7:((k:Int) + 1).toNat=k + 1:=by omega
  have g:win (k:Int) 0 ((b.length:Int) - 1)=true:=by simp only [win,Bool.and_eq_true,decide_eq_true_eq]; omega
  refine X1 x_s_EucSign.eq_1 w1 ?_
  refine C4 (c_s_l1In _ _ _) g (List.getElem?_eq_getElem hk) eb w3 ?_
  cases q:decide (((byteN (b.drop k) 0:Nat):Int) < 128)
  ·have h1:¬ byteN (b.drop ((k:Nat):Int).toNat) 0 < 128:=by rw [Int.toNat_natCast]; simp only [decide_eq_false_iff_not] at q; omega
   cases q2:decide ((k:Int) + 1≥(b.length:Int))
   ·have h3:(k:Int) + 1 < b.length:=by simp only [decide_eq_false_iff_not] at q2; omega
    have hk1:k + 1 < b.length:=by omega
    have eb1:b[k + 1].toNat=byteN (b.drop k) 1:=byteN_drop (j:=1) hk1
    try simp -implicitDefEqProofs (maxSteps:=1000000) only [go_sem,q,q2,List.getElem?_eq_getElem hk,eb,w3,w5,w7,List.getElem?_eq_getElem hk1,eb1,w4]
    repeat refine ⟨sc,?_⟩
    try exact sf
    refine .of (c_s_PairSign _ _ (by omega)) ?_
    try simp -implicitDefEqProofs (maxSteps:=1000000) only [go_sem]
    repeat refine ⟨sc,?_⟩
    try exact sf
    cases q3:(pairSign ((byteN (b.drop k) 0:Nat):Int) ((byteN (b.drop k) 1:Nat):Int)).2
    ·have e:=euc_bad hi h1 q3
     exact F2 q3 e
    ·have e:=euc_two hi h1 h3 q3
     exact F3 q3 e w6
   ·have e:=euc_end hi h1 (by simp only [decide_eq_true_eq] at q2; omega)
    try simp -implicitDefEqProofs (maxSteps:=1000000) only [go_sem,q,q2,List.getElem?_eq_getElem hk,eb,w3,w5,e]
    repeat refine ⟨sc,?_⟩
    try exact sf
  ·have e:=euc_one hi (by rw [Int.toNat_natCast]; simp only [decide_eq_true_eq] at q; omega)
   try simp -implicitDefEqProofs (maxSteps:=1000000) only [go_sem,q,List.getElem?_eq_getElem hk,eb,w3,w5,e]
   repeat refine ⟨sc,?_⟩
   try exact sf
 ·have e:=euc_no hi
  have g:win i 0 ((b.length:Int) - 1)=false:=by
   simp only [win,Bool.and_eq_false_imp,decide_eq_true_eq,decide_eq_false_iff_not]
   omega
  refine X1 x_s_EucSign.eq_1 w1 ?_
  exact D2 (c_s_l1In _ _ _) g e
def x_s_PutRow:FnX:=⟨38,[.tmp 4],
  .q [.v 3 1,.op 4 (.mv (.k (.one (.nils 1))))]
 (.q [.op 6 (.bslice 1 []),.m 7 0,.op 8 (.app 1 1 (.t 6) (.t 7)),.m 5 8]
 (.seq (.q [.L 9 7 3,.c 10 289 [9],.N 11 10]
 (.c 11 (.q [.m 12 5,.m 4 12]
 .ret)))
 (.seq (.draw [.m 13 5,.f 14 3 0,.l 15 14,.c 16 284 [13,15],.f 17 3 5,.l 18 17,.op 19 (.conv (.int .u8) (.t 18)),.f 20 3 6,.l 21 20,.c 22 336 [21],.op 23 (.bslice 1 [(.t 19),(.t 22)]),.op 24 (.app 1 1 (.t 16) (.t 23)),.m 5 24] [[],[],[1],[0,2],[],[4],[5],[],[7],[8,3],[6,9],[3,10,9],[11,11,0,1,2,3,4,5,6,7,8,9,10,11]])
 (.seq (.q [.L 25 7 3,.c 26 291 [25]]
 (.c 26 (.reg [.m 27 5,.f 28 3 1,.L 29 2 28,.op 30 (.call 337 [1,0] [(.t 27),(.t 29)]),.m 5 30])))
 (.seq (.q [.L 31 7 3,.c 32 196 [31]]
 (.c 32 (.reg [.m 33 5,.f 34 3 3,.L 35 2 34,.op 36 (.call 337 [1,0] [(.t 33),(.t 35)]),.m 5 36])))
 (.q [.m 37 5,.m 4 37]
 .ret))))))⟩
theorem r_s_PutRow {Te:TE} (c_s_RowOk:C_s_RowOk Te) (c_s_PutText:C_s_PutText Te) (c_s_l11Bit:C_s_l11Bit Te) (c_s_l9Old:C_s_l9Old Te) (c_s_l11Cell:C_s_l11Cell Te) (c_s_l9New:C_s_l9New Te):C_s_PutRow (RF Te x_s_PutRow):=by
 intro b r hb h
 obtain ⟨h1,h2,h3⟩:=h
 have l0:=putText_len b r.Key
 have l1:=putRow1_len b r
 have l2:=putRow2_len b r
 refine X0 x_s_PutRow.eq_1 ?_
 refine C0 (c_s_RowOk r ⟨h1,h2,h3⟩) ?_
 cases g:r.ok
 ·try simp -implicitDefEqProofs (maxSteps:=1000000) only [go_sem,putRow,g,if_false,reduceCtorEq]
  repeat refine ⟨sc,?_⟩
  try exact sf
 have ep:putRow b r=putRow3 b r:=if_pos g
 refine G0 ?_
 refine C0 (c_s_PutText b r.Key (by omega) h1) ?_
 refine .of (c_s_l11Bit r.Aside) ?_
 try simp -implicitDefEqProofs (maxSteps:=1000000) only [go_sem,mkU_wrap,app2B,take2B]
 repeat refine ⟨sc,?_⟩
 try exact sf
 have e1:putText b r.Key++[mkU r.Has,bif r.Aside then 1 else 0]=putRow1 b r:=rfl
 have e2:(putText b r.Key).length + 2=(putRow1 b r).length:=by rw [putRow1,List.length_append]; rfl
 simp only [e1,e2]
 have gw:=win13 (rowOk_win g)
 refine C0 (c_s_l9Old r gw) ?_
 by_cases q2:r.Has=2
 ·have k2:decide (r.Has≠2)=false:=by simp only [ne_eq,q2,not_true_eq_false,decide_false]
  have k1:decide (r.Has≠1)=true:=decide_eq_true (by omega)
  have e3:putRow2 b r=putRow1 b r:=if_pos q2
  have e4:putRow3 b r=putCell (putRow1 b r) r.New:=by rw [putRow3,if_neg (by omega),e3]
  refine G1 k2 ?_
  refine C1 (c_s_l9New r gw) k1 ?_
  exact D2 (c_s_l11Cell (putRow1 b r) r.New (by omega) h3) ep e4
 ·have k2:decide (r.Has≠2)=true:=decide_eq_true q2
  have e3:putRow2 b r=putCell (putRow1 b r) r.Old:=if_neg q2
  have tt:=c_s_l11Cell (putRow1 b r) r.Old (by omega) h2
  rw [← e3] at tt
  refine G1 k2 ?_
  refine C0 (tt) ?_
  refine C0 (c_s_l9New r gw) ?_
  by_cases q1:r.Has=1
  ·have k1:decide (r.Has≠1)=false:=by simp only [ne_eq,q1,not_true_eq_false,decide_false]
   have e4:putRow3 b r=putRow2 b r:=if_pos q1
   exact F3 k1 ep e4
  ·have k1:decide (r.Has≠1)=true:=decide_eq_true q1
   have e4:putRow3 b r=putCell (putRow2 b r) r.New:=if_neg q1
   refine G1 k1 ?_
   exact D2 (c_s_l11Cell (putRow2 b r) r.New (by omega) h3) ep e4
def x_s_l10Write:FnX:=⟨53,[],
  .seq (.q [.m 6 0,.op 7 (.nilc (.t 6)),.f 8 7 3,.l 9 8,.m 10 9,.z 10 (.m 11 1),.z 10 (.m 12 0),.z 10 (.op 13 (.nilc (.t 12))),.z 10 (.f 14 13 0),.z 10 (.l 15 14),.z 10 (.n 16 15),.z 10 (.B 17 .sub 16 1),.z 10 (.op 18 (.call 120 [0,0,0] [(.t 11),(.i 0),(.t 17)])),.z 10 (.N 19 18),.r 20 10 19,.m 21 20,.z 21 (.m 22 2),.z 21 (.n 23 22),.z 21 (.B 24 .gtr 23 120),.r 25 21 24,.m 26 25,.z 26 (.m 27 0),.z 26 (.op 28 (.nilc (.t 27))),.z 26 (.f 29 28 1),.z 26 (.l 30 29),.z 26 (.n 31 30),.z 26 (.B 32 .geq 31 40),.r 33 26 32,.m 34 33,.z 34 (.m 35 0),.z 34 (.op 36 (.call 281 [6] [(.t 35)])),.z 34 (.N 37 36),.r 38 34 37]
 (.c 38 .ret))
 (.draw [.m 39 0,.m 40 0,.op 41 (.nilc (.t 40)),.f 42 41 1,.l 43 42,.m 44 1,.op 45 (.bslice 1 []),.m 46 2,.op 47 (.app 1 1 (.t 45) (.t 46)),.op 48 (.build [.i 0,.nils 1] [(0,1,(.t 44)),(1,1,(.t 47))]),.op 49 (.bslice 2 [(.t 48)]),.op 50 (.app 2 32 (.t 43) (.t 49)),.op 51 (.nilc (.t 39)),.f 52 51 1,.s 100001 1 52 50] [[],[],[1],[2],[3],[],[],[],[6,7],[5,8],[9],[4,10,8],[0,0,1,2,3,4,5,6,7,8,9,10,11],[12,0,1,2,3,4,5,6,7,8,9,10,11],[13,11,11,0,1,2,3,4,5,6,7,8,9,10,11]])⟩
theorem r_s_l10Write {Te:TE} (c_s_l1In:C_s_l1In Te) (c_s_l10Op:C_s_l10Op Te):C_s_l10Write (RF Te x_s_l10Write):=by
 intro d n b hd hb
 obtain ⟨hl,hc⟩:=hd
 have ws:IntKind.i64.wrap ((d.Secs.length:Int) - 1)=(d.Secs.length:Int) - 1:=IntWalk.i64_in _ (by omega)
 refine X0 x_s_l10Write.eq_1 ?_
 cases g1:d.Down
 rotate_left
 ·have e:=full_down (n:=n) (b:=b) g1
  try simp -implicitDefEqProofs (maxSteps:=1000000) only [go_sem,g1,e,take_all,DevV.enc]
  repeat refine ⟨sc,?_⟩
  try exact sf
  try rfl
 refine G2 g1 ws ?_
 refine C0 (c_s_l1In _ _ _) ?_
 cases g2:win n 0 ((d.Secs.length:Int) - 1)
 ·have e:=full_win (b:=b) g2
  try simp -implicitDefEqProofs (maxSteps:=1000000) only [go_sem,e,take_all,g1,DevV.enc]
  repeat refine ⟨sc,?_⟩
  try exact sf
  try rfl
 cases g3:decide ((b.length:Int) > 120)
 rotate_left
 ·have e:=full_len (d:=d) (n:=n) g3
  try simp -implicitDefEqProofs (maxSteps:=1000000) only [go_sem,g3,e,take_all,g1,DevV.enc]
  repeat refine ⟨sc,?_⟩
  try exact sf
  try rfl
 cases g4:decide ((d.Cache.length:Int)≥40)
 rotate_left
 ·have e:=full_cache (n:=n) (b:=b) g4
  try simp -implicitDefEqProofs (maxSteps:=1000000) only [go_sem,g3,g4,e,take_all,g1,DevV.enc]
  repeat refine ⟨sc,?_⟩
  try exact sf
  try rfl
 have e:=not_full g1 g2 g3 g4
 refine G2 g3 g4 ?_
 have tb:=c_s_l10Op d
 simp only [DevV.enc,g1] at tb
 have bc:=burn_cache d
 have g40:d.burn.Cache.length < 40:=by rw [bc]; simp only [decide_eq_false_iff_not] at g4; omega
 cases g6:(d.Fuse==0)
 ·have g7:¬ d.Fuse=0:=by simpa using g6
  rw [if_neg g7] at e
  have ea:=app1W d.burn.Cache ⟨n,b⟩
  have et:List.take (d.burn.Cache.length + 1) (List.map (WrV.enc true) (d.burn.Cache++[⟨n,b⟩]))=List.map (WrV.enc true) (d.burn.Cache++[⟨n,b⟩]):=List.take_of_length_le (by simp)
  refine .of (tb) ?_
  try simp -implicitDefEqProofs (maxSteps:=1000000) only [go_sem,g6,take_all,take_rows,ea,et,e,g1,DevV.put,DevV.enc]
  repeat refine ⟨sc,?_⟩
  try exact sf
  try rfl
 ·have g7:d.Fuse=0:=by simpa using g6
  rw [if_pos g7] at e
  refine .of (tb) ?_
  try simp -implicitDefEqProofs (maxSteps:=1000000) only [go_sem,g6,take_all,e,g1,DevV.enc]
  repeat refine ⟨sc,?_⟩
  try exact sf
  try rfl
def x_s_l12Mark:FnX:=⟨16,[.tmp 2],
  .q [.v 1 0,.F 2]
 (.q [.f 3 1 0,.l 4 3,.op 5 (.call 120 [0,0,0] [(.t 4),(.i 1),(.i 9)]),.m 6 5,.y 6 (.f 7 1 1),.y 6 (.l 8 7),.y 6 (.c 9 161 [8]),.a 10 6 9,.m 11 10,.y 11 (.f 12 1 2),.y 11 (.l 13 12),.y 11 (.op 14 (.call 120 [0,0,0] [(.t 13),(.i 0),(.i 6)])),.a 15 11 14,.m 2 15]
 .ret)⟩
theorem r_s_l12Mark {Te:TE} (c_s_l1In:C_s_l1In Te) (c_s_l1Word:C_s_l1Word Te):C_s_l12Mark (RF Te x_s_l12Mark):=by
 intro m
 refine run0 ?_
 simp -implicitDefEqProofs (maxSteps:=1000000) only [x_s_l12Mark,go_sem,MarkV.ok]
 repeat refine ⟨sc,?_⟩
 try exact sf
 refine C0 (c_s_l1In _ _ _) ?_
 cases g1:win m.Who 1 9
 ·exact F1 g1
 refine G1 g1 ?_
 refine C0 (c_s_l1Word _) ?_
 cases g2:win m.Seq 0 65535
 ·exact F1 g2
 refine G1 g2 ?_
 exact D0 (c_s_l1In _ _ _)
def x_i_PutText:FnX:=⟨19,[.tmp 4],
  .q [.op 4 (.mv (.k (.one (.nils 1))))]
 (.seq (.q [.m 5 1,.op 6 (.slen (.t 5)),.B 7 .gtr 6 60]
 (.c 7 (.q [.m 8 0,.op 9 (.bslice 1 [(.t 8)]),.c 10 100 [9],.m 4 10]
 .ret)))
 (.q [.m 11 0,.m 12 1,.op 13 (.slen (.t 12)),.c 14 312 [11,13],.m 15 1,.op 16 (.conv .s2b (.t 15)),.op 17 (.bslice 1 [(.t 14),(.t 16)]),.c 18 100 [17],.m 4 18]
 .ret))⟩
theorem r_i_PutText {Te:TE} (c_i_joined:C_i_joined Te) (c_i_PutW:C_i_PutW Te):C_i_PutText (RF Te x_i_PutText):=by
 intro b t h ht
 refine run0 ?_
 simp -implicitDefEqProofs (maxSteps:=1000000) only [x_i_PutText,go_sem]
 refine ⟨fun q=>?_,fun q=>?_⟩
 ·have q':(t.size:Int) > 60:=by simpa using q
  simp only [putText,if_pos q']
  refine .of (c_i_joined [b] (by rw [flat1]; omega) (by show 1≤2 ^ 31; decide)) ?_
  try simp -implicitDefEqProofs (maxSteps:=1000000) only [go_sem,flat1]
  repeat refine ⟨sc,?_⟩
  try exact sf
 ·have q':¬ ((t.size:Int) > 60):=by simpa using q
  have q3:t.data.toList.length=t.size:=by rw [Array.length_toList]; rfl
  have el:=putW_len b t.size
  simp only [putText,if_neg q']
  refine .of (c_i_PutW b _ (by omega)) ?_
  try simp -implicitDefEqProofs (maxSteps:=1000000) only [go_sem,ofBytes_eq]
  repeat refine ⟨sc,?_⟩
  try exact sf
  refine .of (c_i_joined [putW b t.size,t.data.toList] (by rw [flat2,List.length_append,el]; omega) (by show 2≤2 ^ 31; decide)) ?_
  simp -implicitDefEqProofs (maxSteps:=1000000) only [go_sem,flat2]
  refine ⟨decide_eq_true (Nat.le_refl _),?_⟩
  rw [List.take_of_length_le (by rw [List.length_map,List.length_append]; exact Nat.le_refl _)]
end Go.X

