/- Texts: CVu_2 CVza CVn CVo CVj CEb CVy_2 CVk_2 CVz_2 CEa_6 CVzc CK_3. -/
import Derived.Test.YtlfciaccddhhoaaGreatDoorC04
set_option linter.unusedVariables false
set_option linter.unusedSimpArgs false
namespace Go.X
set_option maxRecDepth 100000
set_option maxHeartbeats 8000000
def x_i_Add_1:XCode:=.seq (.q [.f 36 6 0,.f 37 36 3,.l 38 37,.m 39 38,.z 39 (.f 40 6 8),.z 39 (.l 41 40),.z 39 (.B 42 .eql 41 30),.r 43 39 42]
 (.c 43 (.q [.L 44 9 6,.s 100005 9 4 44,.F 5]
 .ret)))
 (.seq (.draw [.f 45 6 0,.L 46 4 45,.f 47 6 7,.l 48 47,.f 49 6 8,.l 50 49,.c 51 140 [48,50],.f 52 6 7,.l 53 52,.f 54 6 8,.l 55 54,.L 56 13 3,.c 57 141 [53,55,56],.c 58 139 [46,51,57],.f 59 6 0,.s 100006 4 59 58] [[],[0],[],[2],[],[4],[3,5],[],[7],[],[9],[],[8,10,11,6],[1,6,12,12],[0,1,2,3,4,5,6,7,8,9,10,11,12,13],[14,13,13,0,1,2,3,4,5,6,7,8,9,10,11,12,13]])
 (.q [.f 60 6 0,.L 61 4 60,.c 62 142 [61],.f 63 6 0,.s 100007 4 63 62]
 (.seq (.q [.f 64 6 0,.f 65 64 3,.l 66 65]
 (.c 66 (.q [.L 67 9 6,.s 100008 9 4 67,.F 5]
 .ret)))
 (.q [.f 68 6 8,.l 69 68,.B 70 .add 69 1,.f 71 6 8,.s 100009 1 71 70]
 (.q [.L 72 3 7,.f 73 6 4,.s 100010 3 73 72]
 (.q [.L 74 9 6,.s 100011 9 4 74,.T 5]
 .ret))))))
def x_i_Add:FnX:=⟨75,[.cell 4 (some 9),.tmp 5],
  .q [.v 2 0,.v 3 1,.op 4 (.alloc [.nils 1,.nils 2,.i 0,.F,.nils 7,.i 0,.nils 3,.i 0,.i 0]),.F 5]
 (.q [.L 9 9 2,.c 10 78 [9],.op 6 (.alloc [.nils 1,.nils 2,.i 0,.F,.nils 7,.i 0,.nils 3,.i 0,.i 0]),.s 100001 9 6 10]
 (.q [.f 12 2 4,.L 13 3 12,.L 14 13 3,.c 15 137 [13,14],.m 11 15,.e 16 11 0,.e 17 11 1,.op 7 (.alloc [.nils 7,.i 0,.nils 3]),.s 100002 3 7 16,.m 8 17]
 (.seq (.q [.L 18 9 2,.c 19 129 [18],.N 20 19,.m 21 20,.z 21 (.f 22 2 0),.z 21 (.f 23 22 3),.z 21 (.l 24 23),.r 25 21 24,.m 26 25,.z 26 (.m 27 8),.z 26 (.N 28 27),.r 29 26 28]
 (.c 29 (.q [.L 30 9 6,.s 100003 9 4 30,.F 5]
 .ret)))
 (.seq (.q [.f 31 6 8,.l 32 31,.B 33 .eql 32 30]
 (.c 33 (.reg [.L 34 9 6,.c 35 138 [34],.s 100004 9 6 35])))
 (.norm [3,4,6,7] (x_i_Add_1))))))⟩
theorem r_i_Add {Te:TE} (c_i_copyStore:C_i_copyStore Te) (c_i_Apply:C_i_Apply Te) (c_i_StoreOk:C_i_StoreOk Te) (c_i_Lay:C_i_Lay Te) (c_i_sectorOf:C_i_sectorOf Te) (c_i_PutRec:C_i_PutRec Te) (c_i_WriteSec:C_i_WriteSec Te) (c_i_FlushDev:C_i_FlushDev Te):C_i_Add (RF Te x_i_Add):=by
 intro s r hs hr
 have hL:=hs.len (by decide)
 refine X0 x_i_Add.eq_1 ?_
 refine C0 (c_i_copyStore s hL) ?_
 refine C0 (c_i_Apply s.T r hs.2 hr) ?_
 refine C0 (c_i_StoreOk s (hs.mono (by decide))) ?_
 cases g1:s.ok
 ·have e:s.add r=(s,false):=by rw [StoreV.add,StoreV.fits,g1]; rfl
  try simp -implicitDefEqProofs (maxSteps:=1000000) only [go_sem,e,take_all,take_marks,StoreV.enc]
  repeat refine ⟨sc,?_⟩
  try exact sf
  try rfl
 cases g2:s.D.Down
 rotate_left
 ·have e:s.add r=(s,false):=by rw [StoreV.add,StoreV.fits,g1,g2]; rfl
  try simp -implicitDefEqProofs (maxSteps:=1000000) only [go_sem,g2,e,take_all,take_marks,StoreV.enc]
  repeat refine ⟨sc,?_⟩
  try exact sf
  try rfl
 cases g3:(s.T.apply r).2
 ·have e:s.add r=(s,false):=by rw [StoreV.add,StoreV.fits,g1,g2,g3]; rfl
  try simp -implicitDefEqProofs (maxSteps:=1000000) only [go_sem,g2,g3,e,take_all,take_marks,StoreV.enc]
  repeat refine ⟨sc,?_⟩
  try exact sf
  try rfl
 have e:s.add r=s.room.end (s.T.apply r).1 r:=by rw [StoreV.add,StoreV.fits,g1,g2,g3]; rfl
 have hr8:=hr.mono (m:=2 ^ 48) (by decide)
 have q:=room_ok g1 hs.2
 have hk1:=(StoreV.ok_iff s).1 g1
 rw [e]
 generalize (s.T.apply r).1=t
 clear e
 cases g4:(s.Place==30)
 ·have er:s.room=s:=by rw [StoreV.room,g4]; rfl
  rw [er] at q ⊢
  have f2:=write_ok q.1 (secOf s.Gen s.Place) (putRec s.Gen s.Place r)
  have hp:=putRec_len s.Gen s.Place r
  have ew:IntKind.i64.wrap (s.Place + 1)=s.Place + 1:=IntWalk.i64_in _ (by omega)
  have t1:=c_i_WriteSec s.D (secOf s.Gen s.Place) (putRec s.Gen s.Place r) q.1 (by omega)
  simp only [DevV.enc,g2] at t1
  refine G2 g2 g4 ?_
  simp -implicitDefEqProofs (maxSteps:=1000000) only [x_i_Add_1,go_sem,g4]
  repeat refine ⟨sc,?_⟩
  refine C0 (c_i_sectorOf _ _) ?_
  refine C0 (c_i_PutRec s.Gen s.Place r hr8) ?_
  refine C0 (t1) ?_
  refine C0 (c_i_FlushDev _ f2) ?_
  have el:((s.D.write (secOf s.Gen s.Place) (putRec s.Gen s.Place r)).flush)=s.log r:=rfl
  rw [el]
  cases g9:(s.log r).Down
  ·have e2:s.end t r=(⟨s.log r,t,s.Gen,s.Place + 1⟩,true):=by rw [StoreV.end,g2,g4,g9]; rfl
   try simp -implicitDefEqProofs (maxSteps:=1000000) only [go_sem,g9,ew,e2,take_all,take_marks,StoreV.enc]
   repeat refine ⟨sc,?_⟩
   try exact sf
   try rfl
  ·have e2:s.end t r=(⟨s.log r,s.T,s.Gen,s.Place⟩,false):=by rw [StoreV.end,g2,g4,g9]; rfl
   try simp -implicitDefEqProofs (maxSteps:=1000000) only [go_sem,g9,e2,take_all,take_marks,StoreV.enc]
   repeat refine ⟨sc,?_⟩
   try exact sf
   try rfl
 ·have er:s.room=s.relay:=by rw [StoreV.room,g4]; rfl
  rw [er] at q ⊢
  have tl:=c_i_Lay s hs
  simp only [StoreV.enc,DevV.enc,g2] at tl
  refine G2 g2 g4 ?_
  refine C0 (tl) ?_
  generalize s.relay=S at q ⊢
  cases gd:S.D.Down
  rotate_left
  ·have e2:S.end t r=(S,false):=by rw [StoreV.end,gd]; rfl
   try simp -implicitDefEqProofs (maxSteps:=1000000) only [go_sem,x_i_Add_1,gd,e2,take_all,take_marks,StoreV.enc]
   repeat refine ⟨sc,?_⟩
   try exact sf
   try rfl
  cases gp:(S.Place==30)
  rotate_left
  ·have e2:S.end t r=(S,false):=by rw [StoreV.end,gd,gp]; rfl
   try simp -implicitDefEqProofs (maxSteps:=1000000) only [go_sem,x_i_Add_1,gd,gp,e2,take_all,take_marks,StoreV.enc]
   repeat refine ⟨sc,?_⟩
   try exact sf
   try rfl
  have f2:=write_ok q.1 (secOf S.Gen S.Place) (putRec S.Gen S.Place r)
  have hp:=putRec_len S.Gen S.Place r
  have ew:IntKind.i64.wrap (S.Place + 1)=S.Place + 1:=IntWalk.i64_in _ (by omega)
  have t1:=c_i_WriteSec S.D (secOf S.Gen S.Place) (putRec S.Gen S.Place r) q.1 (by omega)
  simp only [DevV.enc,gd] at t1
  simp -implicitDefEqProofs (maxSteps:=1000000) only [x_i_Add_1,go_sem,gd,gp]
  repeat refine ⟨sc,?_⟩
  refine C0 (c_i_sectorOf _ _) ?_
  refine C0 (c_i_PutRec S.Gen S.Place r hr8) ?_
  refine C0 (t1) ?_
  refine C0 (c_i_FlushDev _ f2) ?_
  have el:((S.D.write (secOf S.Gen S.Place) (putRec S.Gen S.Place r)).flush)=S.log r:=rfl
  rw [el]
  cases g9:(S.log r).Down
  ·have e2:S.end t r=(⟨S.log r,t,S.Gen,S.Place + 1⟩,true):=by rw [StoreV.end,gd,gp,g9]; rfl
   try simp -implicitDefEqProofs (maxSteps:=1000000) only [go_sem,g9,ew,e2,take_all,take_marks,StoreV.enc]
   repeat refine ⟨sc,?_⟩
   try exact sf
   try rfl
  ·have e2:S.end t r=(⟨S.log r,S.T,S.Gen,S.Place⟩,false):=by rw [StoreV.end,gd,gp,g9]; rfl
   try simp -implicitDefEqProofs (maxSteps:=1000000) only [go_sem,g9,e2,take_all,take_marks,StoreV.enc]
   repeat refine ⟨sc,?_⟩
   try exact sf
   try rfl
def x_i_added:FnX:=⟨20,[.cell 4 (some 10),.tmp 5],
  .q [.v 2 0,.v 3 1,.op 4 (.alloc [.nils 1,.nils 2,.i 0,.F,.nils 7,.i 0,.nils 3,.i 0,.i 0,.i 0]),.F 5]
 (.q [.f 9 2 0,.L 10 9 9,.L 11 13 3,.c 12 82 [10,11],.m 8 12,.e 13 8 0,.e 14 8 1,.op 6 (.alloc [.nils 1,.nils 2,.i 0,.F,.nils 7,.i 0,.nils 3,.i 0,.i 0]),.s 100001 9 6 13,.m 7 14]
 (.q [.L 15 9 6,.f 16 2 9,.l 17 16,.op 18 (.build [.nils 1,.nils 2,.i 0,.F,.nils 7,.i 0,.nils 3,.i 0,.i 0,.i 0] [(0,9,(.t 15)),(9,1,(.t 17))]),.m 19 7,.s 100002 10 4 18,.m 5 19]
 .ret))⟩
theorem r_i_added {Te:TE} (c_i_Add:C_i_Add Te):C_i_added (RF Te x_i_added):=by
 intro n r hn hr
 refine X0 x_i_added.eq_1 ?_
 refine .of (c_i_Add n.S r hn hr) ?_
 try simp -implicitDefEqProofs (maxSteps:=1000000) only [go_sem,take_all,take_marks,StoreV.enc]
 repeat refine ⟨sc,?_⟩
 try exact sf
 try rfl
def x_i_RowOf:FnX:=⟨79,[.cell 8 (some 7),.tmp 9],
  .q [.op 8 (.alloc [.e,.i 0,.nils 1,.i 0,.nils 1,.i 0,.F]),.i 9 0]
 (.q [.m 18 3,.op 19 (.call 158 [0,0] [(.i 0),(.t 18)]),.m 17 19,.e 20 17 0,.e 21 17 1,.op 10 (.alloc [.i 0,.nils 1]),.s 100001 2 10 20,.m 11 21]
 (.seq (.q [.m 22 0,.op 23 (.call 77 [0,0,0] [(.t 22),(.i 0),(.i 7)]),.N 24 23,.m 25 24,.z 25 (.m 26 1),.z 25 (.c 27 34 [26]),.z 25 (.N 28 27),.r 29 25 28,.m 30 29,.z 30 (.m 31 2),.z 30 (.op 32 (.call 77 [0,0,0] [(.t 31),(.i 1),(.i 5)])),.z 30 (.N 33 32),.r 34 30 33,.m 35 34,.z 35 (.m 36 11),.z 35 (.N 37 36),.r 38 35 37]
 (.c 38 (.q [.op 39 (.build [.e,.i 0,.nils 1,.i 0,.nils 1,.i 0,.F] []),.s 100002 7 8 39,.i 9 1]
 .ret)))
 (.q [.m 41 2,.m 42 3,.c 43 158 [41,42],.m 40 43,.e 44 40 0,.e 45 40 1,.op 12 (.alloc [.i 0,.nils 1]),.s 100003 2 12 44,.m 13 45]
 (.q [.m 46 1,.L 47 2 12,.op 48 (.build [.e,.i 0,.nils 1,.i 0,.nils 1,.i 0,.F] [(0,1,(.t 46)),(1,2,(.t 47)),(5,1,(.i 1))]),.op 14 (.alloc [.e,.i 0,.nils 1,.i 0,.nils 1,.i 0,.F]),.s 100004 7 14 48]
 (.q [.m 49 1,.L 50 2 10,.op 51 (.build [.e,.i 0,.nils 1,.i 0,.nils 1,.i 0,.F] [(0,1,(.t 49)),(3,2,(.t 50)),(5,1,(.i 2))]),.op 15 (.alloc [.e,.i 0,.nils 1,.i 0,.nils 1,.i 0,.F]),.s 100005 7 15 51]
 (.q [.L 52 7 15,.op 16 (.alloc [.e,.i 0,.nils 1,.i 0,.nils 1,.i 0,.F]),.s 100006 7 16 52]
 (.q [.f 53 16 6,⟨none,none,100007,.store 1 (.t 53) .T⟩]
 (.seq (.q [.m 54 0]
 (.block 0 (.seq (.q [.B 56 .eql 54 0,.m 55 56]
 (.cond 55 .skip (.reg [.B 57 .eql 54 7,.m 55 57])))
 (.cond 55 (.seq (.q [.m 58 13,.N 59 58]
 (.c 59 (.q [.op 60 (.build [.e,.i 0,.nils 1,.i 0,.nils 1,.i 0,.F] []),.s 100008 7 8 60,.i 9 3]
 .ret)))
 (.q [.L 61 7 14,.s 100009 7 8 61,.i 9 0]
 .ret)) (.seq (.q [.B 63 .eql 54 4,.m 62 63]
 (.cond 62 .skip (.reg [.B 64 .eql 54 5,.m 62 64])))
 (.cond 62 (.q [.L 65 7 15,.s 100010 7 8 65,.i 9 0]
 .ret) (.q [.B 67 .eql 54 6,.m 66 67]
 (.c 66 (.seq (.q [.m 68 13,.N 69 68]
 (.c 69 (.q [.L 70 7 16,.s 100011 7 8 70,.i 9 0]
 .ret)))
 (.q [.L 71 7 14,.s 100012 7 8 71,.i 9 0]
 .ret))))))))))
 (.seq (.q [.m 72 13,.N 73 72]
 (.c 73 (.q [.L 74 7 16,.s 100013 7 8 74,.i 9 0]
 .ret)))
 (.q [.m 75 1,.L 76 2 12,.L 77 2 10,.op 78 (.build [.e,.i 0,.nils 1,.i 0,.nils 1,.i 0,.F] [(0,1,(.t 75)),(1,2,(.t 76)),(3,2,(.t 77)),(5,1,(.i 3))]),.s 100014 7 8 78,.i 9 0]
 .ret))))))))))⟩
theorem r_i_RowOf {Te:TE} (c_i_CellOf:C_i_CellOf Te) (c_i_within:C_i_within Te) (c_i_NameOk:C_i_NameOk Te):C_i_RowOf (RF Te x_i_RowOf):=by
 intro ph key cs s hk hs
 refine X0 x_i_RowOf.eq_1 ?_
 refine C0 (c_i_CellOf 0 s hs) ?_
 refine C0 (c_i_within _ _ _) ?_
 cases g1:win ph 0 7
 ·try simp -implicitDefEqProofs (maxSteps:=1000000) only [go_sem,rowOf,rowFine,g1,take_rows]
  repeat refine ⟨sc,?_⟩
  try exact sf
  try rfl
 refine G0 ?_
 refine C0 (c_i_NameOk key (by omega)) ?_
 cases g2:nameOk key
 ·try simp -implicitDefEqProofs (maxSteps:=1000000) only [go_sem,rowOf,rowFine,g1,g2,take_rows]
  repeat refine ⟨sc,?_⟩
  try exact sf
  try rfl
 refine G0 ?_
 refine C0 (c_i_within _ _ _) ?_
 cases g3:win cs 1 5
 ·try simp -implicitDefEqProofs (maxSteps:=1000000) only [go_sem,rowOf,rowFine,g1,g2,g3,take_rows]
  repeat refine ⟨sc,?_⟩
  try exact sf
  try rfl
 refine G0 ?_
 cases g4:(cellOf 0 s).2
 ·try simp -implicitDefEqProofs (maxSteps:=1000000) only [go_sem,rowOf,rowFine,g1,g2,g3,g4,take_rows]
  repeat refine ⟨sc,?_⟩
  try exact sf
  try rfl
 refine G1 g4 ?_
 refine C0 (c_i_CellOf cs s hs) ?_
 cases g5:(cellOf cs s).2 <;> cases p0:(ph==0) <;> cases p7:(ph==7) <;> cases p4:(ph==4) <;> cases p5:(ph==5) <;> cases p6:(ph==6)
 all_goals
  try simp -implicitDefEqProofs (maxSteps:=1000000) only [go_sem,rowOf,rowFine,g1,g2,g3,g4,g5,p0,p7,p4,p5,p6,take_rows]
  try rfl
def x_s_RowOf:FnX:=⟨77,[.cell 8 (some 7),.tmp 9],
  .q [.op 8 (.alloc [.e,.i 0,.nils 1,.i 0,.nils 1,.i 0,.F]),.i 9 0]
 (.q [.m 15 3,.op 16 (.call 92 [0,0] [(.i 0),(.t 15)]),.m 14 16,.e 17 14 0,.e 18 14 1,.op 10 (.alloc [.i 0,.nils 1]),.s 100001 2 10 17,.m 11 18]
 (.seq (.q [.m 19 0,.op 20 (.call 64 [0,0,0] [(.t 19),(.i 0),(.i 7)]),.N 21 20,.m 22 21,.z 22 (.m 23 1),.z 22 (.c 24 29 [23]),.z 22 (.N 25 24),.r 26 22 25,.m 27 26,.z 27 (.m 28 2),.z 27 (.op 29 (.call 64 [0,0,0] [(.t 28),(.i 1),(.i 5)])),.z 27 (.N 30 29),.r 31 27 30,.m 32 31,.z 32 (.m 33 11),.z 32 (.N 34 33),.r 35 32 34]
 (.c 35 (.q [.op 36 (.build [.e,.i 0,.nils 1,.i 0,.nils 1,.i 0,.F] []),.s 100002 7 8 36,.i 9 1]
 .ret)))
 (.q [.m 38 2,.m 39 3,.c 40 92 [38,39],.m 37 40,.e 41 37 0,.e 42 37 1,.op 12 (.alloc [.i 0,.nils 1]),.s 100003 2 12 41,.m 13 42]
 (.seq (.q [.m 43 0]
 (.block 0 (.seq (.q [.B 45 .eql 43 0,.m 44 45]
 (.cond 44 .skip (.reg [.B 46 .eql 43 7,.m 44 46])))
 (.cond 44 (.seq (.q [.m 47 13,.N 48 47]
 (.c 48 (.q [.op 49 (.build [.e,.i 0,.nils 1,.i 0,.nils 1,.i 0,.F] []),.s 100004 7 8 49,.i 9 3]
 .ret)))
 (.q [.m 50 1,.L 51 2 12,.op 52 (.build [.e,.i 0,.nils 1,.i 0,.nils 1,.i 0,.F] [(0,1,(.t 50)),(1,2,(.t 51)),(5,1,(.i 1))]),.s 100005 7 8 52,.i 9 0]
 .ret)) (.seq (.q [.B 54 .eql 43 4,.m 53 54]
 (.cond 53 .skip (.reg [.B 55 .eql 43 5,.m 53 55])))
 (.cond 53 (.q [.m 56 1,.L 57 2 10,.op 58 (.build [.e,.i 0,.nils 1,.i 0,.nils 1,.i 0,.F] [(0,1,(.t 56)),(3,2,(.t 57)),(5,1,(.i 2))]),.s 100006 7 8 58,.i 9 0]
 .ret) (.q [.B 60 .eql 43 6,.m 59 60]
 (.c 59 (.seq (.q [.m 61 13]
 (.c 61 (.q [.m 62 1,.L 63 2 12,.op 64 (.build [.e,.i 0,.nils 1,.i 0,.nils 1,.i 0,.F] [(0,1,(.t 62)),(1,2,(.t 63)),(5,1,(.i 1))]),.s 100007 7 8 64,.i 9 0]
 .ret)))
 (.q [.m 65 1,.L 66 2 10,.op 67 (.build [.e,.i 0,.nils 1,.i 0,.nils 1,.i 0,.F] [(0,1,(.t 65)),(3,2,(.t 66)),(5,1,(.i 2)),(6,1,.T)]),.s 100008 7 8 67,.i 9 0]
 .ret))))))))))
 (.seq (.q [.m 68 13,.N 69 68]
 (.c 69 (.q [.m 70 1,.L 71 2 10,.op 72 (.build [.e,.i 0,.nils 1,.i 0,.nils 1,.i 0,.F] [(0,1,(.t 70)),(3,2,(.t 71)),(5,1,(.i 2)),(6,1,.T)]),.s 100009 7 8 72,.i 9 0]
 .ret)))
 (.q [.m 73 1,.L 74 2 12,.L 75 2 10,.op 76 (.build [.e,.i 0,.nils 1,.i 0,.nils 1,.i 0,.F] [(0,1,(.t 73)),(1,2,(.t 74)),(3,2,(.t 75)),(5,1,(.i 3))]),.s 100010 7 8 76,.i 9 0]
 .ret))))))⟩
theorem r_s_RowOf {Te:TE} (c_s_CellOf:C_s_CellOf Te) (c_s_l1In:C_s_l1In Te) (c_s_NameOk:C_s_NameOk Te):C_s_RowOf (RF Te x_s_RowOf):=by
 intro ph key cs s hk hs
 refine X0 x_s_RowOf.eq_1 ?_
 refine C0 (c_s_CellOf 0 s hs) ?_
 refine C0 (c_s_l1In _ _ _) ?_
 cases g1:win ph 0 7
 ·try simp -implicitDefEqProofs (maxSteps:=1000000) only [go_sem,rowOf,rowFine,g1,take_rows]
  repeat refine ⟨sc,?_⟩
  try exact sf
  try rfl
 refine G0 ?_
 refine C0 (c_s_NameOk key (by omega)) ?_
 cases g2:nameOk key
 ·try simp -implicitDefEqProofs (maxSteps:=1000000) only [go_sem,rowOf,rowFine,g1,g2,take_rows]
  repeat refine ⟨sc,?_⟩
  try exact sf
  try rfl
 refine G0 ?_
 refine C0 (c_s_l1In _ _ _) ?_
 cases g3:win cs 1 5
 ·try simp -implicitDefEqProofs (maxSteps:=1000000) only [go_sem,rowOf,rowFine,g1,g2,g3,take_rows]
  repeat refine ⟨sc,?_⟩
  try exact sf
  try rfl
 refine G0 ?_
 cases g4:(cellOf 0 s).2
 ·try simp -implicitDefEqProofs (maxSteps:=1000000) only [go_sem,rowOf,rowFine,g1,g2,g3,g4,take_rows]
  repeat refine ⟨sc,?_⟩
  try exact sf
  try rfl
 refine G1 g4 ?_
 refine C0 (c_s_CellOf cs s hs) ?_
 cases g5:(cellOf cs s).2 <;> cases p0:(ph==0) <;> cases p7:(ph==7) <;> cases p4:(ph==4) <;> cases p5:(ph==5) <;> cases p6:(ph==6)
 all_goals
  try simp -implicitDefEqProofs (maxSteps:=1000000) only [go_sem,rowOf,rowFine,g1,g2,g3,g4,g5,p0,p7,p4,p5,p6,take_rows]
  try rfl
def x_s_l13Lay:FnX:=⟨64,[],
  .q [.m 6 0,.op 7 (.nilc (.t 6)),.f 8 7 4,.L 9 3 8,.c 10 117 [9],.m 4 10]
 (.seq (.q [.i 5 0]
 (.block 0 (.loop [0,1,4,5] (.seq (.q [.m 11 5,.m 12 4,.n 13 12,.b 14 .lss 11 13]
 (.cond 14 .skip (.exit 0)))
 (.seq (.block 1 (.draw [.m 17 0,.op 18 (.nilc (.t 17)),.f 19 18 0,.m 20 1,.m 21 5,.c 22 71 [20,21],.m 23 1,.m 24 5,.m 25 4,.m 26 5,.x 27 13 25 26,.L 28 13 27,.c 29 72 [23,24,28],.op 30 (.call 70 [6,0,0] [(.t 19),(.t 22),(.t 29)])] [[],[0],[1],[],[],[3,4],[],[],[],[],[8,9],[10],[6,7,11,5],[2,5,12,12]]))
 (.reg [.m 15 5,.B 16 .add 15 1,.m 5 16]))))))
 (.norm [0,1,4] (.q [.m 31 0,.op 32 (.nilc (.t 31)),.f 33 32 0,.op 34 (.call 73 [6] [(.t 33)])]
 (.seq (.draw [.m 35 0,.op 36 (.nilc (.t 35)),.f 37 36 0,.m 38 1,.B 39 .rem 38 2,.m 40 1,.m 41 4,.n 42 41,.c 43 118 [40,42],.op 44 (.call 70 [6,0,0] [(.t 37),(.t 39),(.t 43)])] [[],[0],[1],[],[3],[],[],[6],[5,7],[2,4,8,8]])
 (.q [.m 45 0,.op 46 (.nilc (.t 45)),.f 47 46 0,.op 48 (.call 73 [6] [(.t 47)])]
 (.q [.m 49 0,.op 50 (.nilc (.t 49)),.f 51 50 0,.f 52 51 3,.l 53 52,.N 54 53]
 (.c 54 (.q [.m 55 0,.m 56 1,.op 57 (.nilc (.t 55)),.f 58 57 7,.s 100001 1 58 56]
 (.reg [.m 59 0,.m 60 4,.n 61 60,.op 62 (.nilc (.t 59)),.f 63 62 8,.s 100002 1 63 61])))))))))⟩
theorem r_s_l13Lay {Te:TE} (c_s_RecsOf:C_s_RecsOf Te) (c_s_l13At:C_s_l13At Te) (c_s_PutRec:C_s_PutRec Te) (c_s_l10Write:C_s_l10Write Te) (c_s_l10Flush:C_s_l10Flush Te) (c_s_HeadOf:C_s_HeadOf Te):C_s_l13Lay (RF Te x_s_l13Lay):=by
 intro s gen hd ht
 have hL:=ht.len (by decide)
 obtain ⟨hr1,hr2⟩:=recsOf_le ht
 obtain ⟨D0,T0,G0,P0⟩:=s
 simp only at hd ht hL hr1 hr2
 obtain ⟨E0,hE⟩:∃ E0,E0=D0:=⟨_,rfl⟩
 generalize hL0:(StoreV.mk D0 T0 G0 P0).lay gen=L0
 rw [← hE] at hL0
 refine X0 x_s_l13Lay.eq_1 ?_
 refine C0 (c_s_RecsOf T0 hL) ?_
 generalize eR:recsOf T0=R at hr1 hr2
 refine loop_of (σ:=Bool×Nat×DevV) (fun x=>cond x.1 (⟨[(0,.bp 0 0),(1,.one (.pv (.int .i64 gen))),(4,.one (.rf 66 0 [] 13 0 R.length)),(5,.one (.pv (.int .i64 x.2.1)))],[(0,[.rf 67 0 [] 1 0 x.2.2.Secs.length,.rf 67 1 [] 2 0 x.2.2.Cache.length,.pv (.int .i64 x.2.2.Fuse),.pv (.bool x.2.2.Down),.rf 0 4 [] 7 0 T0.Rows.length,.pv (.int .i64 T0.Phase),.rf 0 6 [] 3 0 T0.Marks.length,.pv (.int .i64 G0),.pv (.int .i64 P0)])],[(0,[.no (),.no (),iT D0.Fuse,bT D0.Down,slT true 7 (RowV.enc true) T0.Rows,iT T0.Phase,slT true 3 MarkV.row T0.Marks,iT G0,iT P0]),(1,[iT gen]),(66,[slT true 13 (RecV.enc true) R]),(67,x.2.2.enc true)]⟩) (⟨[(0,.bp 0 0),(1,.one (.pv (.int .i64 gen))),(4,.one (.rf 66 0 [] 13 0 R.length)),(5,.one (.pv (.int .i64 x.2.1)))],[(0,[.rf 0 0 [] 1 0 x.2.2.Secs.length,.rf 0 1 [] 2 0 x.2.2.Cache.length,.pv (.int .i64 x.2.2.Fuse),.pv (.bool x.2.2.Down),.rf 0 4 [] 7 0 T0.Rows.length,.pv (.int .i64 T0.Phase),.rf 0 6 [] 3 0 T0.Marks.length,.pv (.int .i64 G0),.pv (.int .i64 P0)])],[(0,(StoreV.mk D0 T0 G0 P0).enc true),(1,[iT gen]),(66,[slT true 13 (RecV.enc true) R])]⟩)) (fun x=>x.2.1≤R.length∧x.2.2=layN gen R E0 x.2.1∧x.2.2.ok=true∧(x.1=false→x.2.2=D0)) (fun x=>R.length - x.2.1) (false,0,D0) ?_ ⟨Nat.zero_le _,hE.symm,hd,fun _=>rfl⟩ ?_
 ·simp -implicitDefEqProofs (maxSteps:=1000000) only [go_sem]
  try rfl
 ·rintro ⟨b,i,D⟩ ⟨hi,hD,hk,hb⟩
  simp only at hi hD hk hb
  cases b
  all_goals try (have hb:=hb rfl; subst hb)
  all_goals
   have hcl:=(DevV.ok_iff D).1 hk
   cases q:decide ((i:Int) < (R.length:Int))
   ·have k0:i=R.length:=by simp only [decide_eq_false_iff_not] at q; omega
    have e:((D.flush).write (gen.tmod 2) (headOf gen R.length)).flush=layDev gen R E0:=by rw [hD,k0]; rfl
    have hh:=headOf_len gen R.length
    have f1:=flush_ok hk
    have f2:=write_ok f1 (gen.tmod 2) (headOf gen R.length)
    have hcl1:=(DevV.ok_iff _).1 f1
    have hcl2:=(DevV.ok_iff _).1 f2
    refine G1 q ?_
    refine C0 (c_s_l10Flush D (by omega) (DevV.ok_idx hk)) ?_
    refine C0 (c_s_HeadOf _ _) ?_
    refine .of (c_s_l10Write D.flush _ _ (by omega) (by omega)) ?_
    try simp -implicitDefEqProofs (maxSteps:=1000000) only [go_sem,take_all]
    repeat refine ⟨sc,?_⟩
    try exact sf
    refine .of (c_s_l10Flush _ (by omega) (DevV.ok_idx f2)) ?_
    try simp -implicitDefEqProofs (maxSteps:=1000000) only [go_sem,take_all]
    repeat refine ⟨sc,?_⟩
    try exact sf
    rw [e]
    cases g:(layDev gen R E0).Down
    ·have e2:L0=⟨layDev gen R E0,T0,gen,R.length⟩:=by rw [← hL0,← eR]; exact lay_up (by rw [eR]; exact g)
     try simp -implicitDefEqProofs (maxSteps:=1000000) only [go_sem,g,e2,take_all,StoreV.enc]
     repeat refine ⟨sc,?_⟩
     try exact sf
     try rfl
    ·have e2:L0=⟨layDev gen R E0,T0,G0,P0⟩:=by rw [← hL0,← eR]; exact lay_down (by rw [eR]; exact g)
     try simp -implicitDefEqProofs (maxSteps:=1000000) only [go_sem,g,e2,take_all,StoreV.enc]
     repeat refine ⟨sc,?_⟩
     try exact sf
     try rfl
   ·have k1:i < R.length:=by simp only [decide_eq_true_eq] at q; omega
    have hp:=putRec_len gen i R[i]
    have hin:=hr2 _ (List.getElem_mem k1)
    have es:=layN_step gen E0 k1
    rw [← hD] at es
    have eg:(R.map (RecV.enc true)).getD i []=R[i].enc true:=by rw [List.getD_eq_getElem?_getD,List.getElem?_map,List.getElem?_eq_getElem k1]; rfl
    refine G2 q (List.getElem?_eq_getElem k1) ?_
    refine C2 (c_s_l13At _ _) eg (List.getElem?_eq_getElem k1) ?_
    refine C0 (c_s_PutRec _ _ R[i] hin) ?_
    refine .of (c_s_l10Write D _ _ (by omega) (by omega)) ?_
    try simp -implicitDefEqProofs (maxSteps:=1000000) only [go_sem,take_all]
    repeat refine ⟨sc,?_⟩
    try exact sf
    refine ⟨(true,i + 1,D.write (secOf gen i) (putRec gen i R[i])),?_,⟨k1,es,write_ok hk _ _,fun h=>by cases h⟩,by simp only; omega⟩
    rw [IntWalk.i64_in _ (by omega)]
    rfl
def x_i_isUp:FnX:=⟨12,[.tmp 2],
  .q [.v 1 0,.F 2]
 (.q [.L 3 10 1,.c 4 76 [3],.m 5 4,.y 5 (.f 6 1 0),.y 5 (.f 7 6 0),.y 5 (.f 8 7 3),.y 5 (.l 9 8),.y 5 (.N 10 9),.a 11 5 10,.m 2 11]
 .ret)⟩
theorem r_i_isUp {Te:TE} (c_i_NodeOk:C_i_NodeOk Te):C_i_isUp (RF Te x_i_isUp):=by
 intro n h
 refine X0 x_i_isUp.eq_1 ?_
 refine C0 (c_i_NodeOk n h) ?_
 cases g:n.ok
 ·have e:n.up=false:=by rw [NodeV.up,g]; rfl
  exact F1 e
 ·have e:n.up = !n.S.D.Down:=by rw [NodeV.up,g]; rfl
  exact F1 e
def x_s_l15Up:FnX:=⟨12,[.tmp 2],
  .q [.v 1 0,.F 2]
 (.q [.L 3 10 1,.c 4 63 [3],.m 5 4,.y 5 (.f 6 1 0),.y 5 (.f 7 6 0),.y 5 (.f 8 7 3),.y 5 (.l 9 8),.y 5 (.N 10 9),.a 11 5 10,.m 2 11]
 .ret)⟩
theorem r_s_l15Up {Te:TE} (c_s_NodeOk:C_s_NodeOk Te):C_s_l15Up (RF Te x_s_l15Up):=by
 intro n h
 refine X0 x_s_l15Up.eq_1 ?_
 refine C0 (c_s_NodeOk n h) ?_
 cases g:n.ok
 ·have e:n.up=false:=by rw [NodeV.up,g]; rfl
  exact F1 e
 ·have e:n.up = !n.S.D.Down:=by rw [NodeV.up,g]; rfl
  exact F1 e
def x_i_RowAt1:FnX:=⟨8,[.tmp 3],
  .q [.v 2 0,.F 3]
 (.q [.f 4 2 0,.l 5 4,.l 6 1,.b 7 .eql 5 6,.m 3 7]
 .ret)⟩
theorem r_i_RowAt1 {Te:TE}:C_i_RowAt1 (RF Te x_i_RowAt1):=by
 intro r key
 refine run0 ?_
 simp -implicitDefEqProofs (maxSteps:=1000000) only [x_i_RowAt1,go_sem]
 repeat refine ⟨sc,?_⟩
 try exact sf
def x_z_IndexFuncimplRowAt1:FnX:=⟨19,[.tmp 4],
  .q [.i 4 0]
 (.seq (.q [.m 6 0,.n 7 6,.i 8 0]
 (.block 0 (.loop [0,1,7,8] (.q [.b 9 .lss 8 7]
 (.seq (.cond 9 .skip (.exit 0))
 (.seq (.block 1 (.q [.m 10 8,.m 5 10]
 (.q [.m 11 1,.m 12 0,.m 13 5,.x 14 7 12 13,.L 15 7 14,.op 16 (.dcall 156 [0,3] [(.t 15)] (.t 11))]
 (.c 16 (.q [.m 17 5,.m 4 17]
 .ret)))))
 (.reg [.B 18 .add 8 1,.m 8 18])))))))
 (.norm [] (.q [.i 4 (-1)]
 .ret)))⟩
theorem r_z_IndexFuncimplRowAt1 {Te:TE} (c_i_RowAt1:C_i_RowAt1 Te):C_z_IndexFuncimplRowAt1 (RFV Te 156 x_z_IndexFuncimplRowAt1):=by
 intro l key hl
 refine run0V ?_
 simp -implicitDefEqProofs (maxSteps:=1000000) only [x_z_IndexFuncimplRowAt1,go_sem]
 repeat refine ⟨sc,?_⟩
 try exact sf
 refine loop_of (σ:=Nat) (fun i=>⟨[(0,.one (.ro 7 (l.map (RowV.enc false)))),(1,.fn 156 1 0),(7,.one (.pv (.int .i64 l.length))),(8,.one (.pv (.int .i64 i)))],[(1,[.pv (.string key)])],[(0,[slT false 7 (RowV.enc false) l]),(1,[sT key])]⟩) (fun i=>i≤l.length∧∀ j (hj:j < l.length),j < i→decide (l[j].Key=key)=false) (fun i=>l.length - i) 0 ?_ ⟨Nat.zero_le _,fun j _ h=>absurd h (Nat.not_lt_zero _)⟩ ?_
 ·simp -implicitDefEqProofs (maxSteps:=1000000) only [go_sem]
  try rfl
 ·rintro i ⟨hi,hp⟩
  cases q:decide ((i:Int) < (l.length:Int))
  ·have e:=rowAt_none (i:=i) (by simp only [decide_eq_false_iff_not] at q; omega) hp
   exact F2 q e
  ·have k1:i < l.length:=by simp only [decide_eq_true_eq] at q; omega
   refine G2 q (List.getElem?_eq_getElem k1) ?_
   refine C0 (c_i_RowAt1 l[i] key) ?_
   cases g:decide (l[i].Key=key)
   ·refine G1 g ?_
    refine ⟨i + 1,?_,⟨k1,rowAt_step k1 hp g⟩,by omega⟩
    rw [IntWalk.i64_in _ (by omega)]
    rfl
   ·have e:=(rowAt_hit k1 hp g).1
    exact F2 g e
def x_i_RowAt:FnX:=⟨9,[.tmp 4],
  .q [.v 2 0,.v 3 1,.i 4 0]
 (.q [.f 5 2 0,.l 6 5,.op 7 (.clos 156 (.t 3)),.op 8 (.vcall 155 156 [0,3] [(.t 6)] (.t 7)),.m 4 8]
 .ret)⟩
theorem r_i_RowAt {Te:TE} (c_z_IndexFuncimplRowAt1:C_z_IndexFuncimplRowAt1 Te):C_i_RowAt (RF Te x_i_RowAt):=by
 intro t key hl
 refine X0 x_i_RowAt.eq_1 ?_
 exact D0 (c_z_IndexFuncimplRowAt1 t.Rows key hl)
def x_s_RowAt:FnX:=⟨22,[.tmp 4],
  .q [.v 2 0,.i 4 0]
 (.seq (.q [.i 5 0]
 (.block 0 (.loop [1,2,5] (.seq (.q [.m 6 5,.f 7 2 0,.l 8 7,.n 9 8,.b 10 .lss 6 9]
 (.cond 10 .skip (.exit 0)))
 (.seq (.block 1 (.q [.f 13 2 0,.l 14 13,.m 15 5,.x 16 7 14 15,.f 17 16 0,.l 18 17,.m 19 1,.b 20 .eql 18 19]
 (.c 20 (.q [.m 21 5,.m 4 21]
 .ret))))
 (.reg [.m 11 5,.B 12 .add 11 1,.m 5 12]))))))
 (.norm [] (.q [.i 4 (-1)]
 .ret)))⟩
theorem r_s_RowAt {Te:TE}:C_s_RowAt (RF Te x_s_RowAt):=by
 intro t key hl
 refine X0 x_s_RowAt.eq_1 ?_
 refine loop_of (σ:=Nat) (fun i=>⟨[(1,.one (.pv (.string key))),(2,.bp 2 0),(5,.one (.pv (.int .i64 i)))],[(2,[.ro 7 (t.Rows.map (RowV.enc false)),.pv (.int .i64 t.Phase),.ro 3 (t.Marks.map MarkV.row)])],[(0,t.enc false),(1,[sT key])]⟩) (fun i=>i≤t.Rows.length∧∀ j (hj:j < t.Rows.length),j < i→decide (t.Rows[j].Key=key)=false) (fun i=>t.Rows.length - i) 0 ?_ ⟨Nat.zero_le _,fun j _ h=>absurd h (Nat.not_lt_zero _)⟩ ?_
 ·simp -implicitDefEqProofs (maxSteps:=1000000) only [go_sem]
  try rfl
 ·rintro i ⟨hi,hp⟩
  cases q:decide ((i:Int) < (t.Rows.length:Int))
  ·have e:=rowAt_none (i:=i) (by simp only [decide_eq_false_iff_not] at q; omega) hp
   exact F2 q e
  ·have k1:i < t.Rows.length:=by simp only [decide_eq_true_eq] at q; omega
   cases g:decide (t.Rows[i].Key=key)
   ·refine G3 q (List.getElem?_eq_getElem k1) g ?_
    refine ⟨i + 1,?_,⟨k1,rowAt_step k1 hp g⟩,by omega⟩
    rw [IntWalk.i64_in _ (by omega)]
    rfl
   ·have e:=(rowAt_hit k1 hp g).1
    exact F4 q (List.getElem?_eq_getElem k1) g e
def x_s_l11Cell:FnX:=⟨15,[.tmp 4],
  .q [.v 3 1,.op 4 (.mv (.k (.one (.nils 1))))]
 (.seq (.draw [.m 5 0,.f 6 3 0,.l 7 6,.op 8 (.conv (.int .u8) (.t 7)),.op 9 (.bslice 1 [(.t 8)]),.op 10 (.app 1 1 (.t 5) (.t 9)),.f 11 3 1,.l 12 11,.op 13 (.conv .b2s (.t 12)),.c 14 123 [10,13],.m 4 14] [[],[],[1],[2],[3],[0,4],[],[6],[7],[5,8,5],[9,9,0,1,2,3,4,5,6,7,8,9]])
 .ret)⟩
theorem r_s_l11Cell {Te:TE} (c_s_PutText:C_s_PutText Te):C_s_l11Cell (RF Te x_s_l11Cell):=by
 intro b c hb hc
 refine run0 ?_
 have ea:=areBytes_uR c.B
 have fa:=bytesOf_uR c.B
 simp -implicitDefEqProofs (maxSteps:=1000000) only [x_s_l11Cell,go_sem,mkU_wrap,ea,fa,app1B,take1B]
 repeat refine ⟨sc,?_⟩
 try exact sf
 have tt:=c_s_PutText (b++[mkU c.Tag]) (strOf c.B) (by rw [List.length_append]; simp only [List.length_cons,List.length_nil]; omega) (by rw [strOf_size]; exact hc)
 rw [← putCell] at tt
 exact D0 (tt)
def x_i_PutRow:FnX:=⟨56,[.tmp 4],
  .q [.v 3 1,.op 4 (.mv (.k (.one (.nils 1))))]
 (.q [.m 6 0,.op 7 (.bslice 1 [(.t 6)]),.c 8 37 [7],.m 5 8]
 (.seq (.q [.L 9 7 3,.c 10 165 [9],.N 11 10]
 (.c 11 (.q [.m 12 5,.m 4 12]
 .ret)))
 (.seq (.draw [.m 13 5,.f 14 3 0,.l 15 14,.c 16 203 [13,15],.f 17 3 5,.l 18 17,.op 19 (.conv (.int .u8) (.t 18)),.f 20 3 6,.l 21 20,.c 22 226 [21],.op 23 (.bslice 1 [(.t 19),(.t 22)]),.op 24 (.app 1 1 (.t 16) (.t 23)),.m 5 24] [[],[],[1],[0,2],[],[4],[5],[],[7],[8,3],[6,9],[3,10,9],[11,11,0,1,2,3,4,5,6,7,8,9,10,11]])
 (.seq (.q [.f 25 3 5,.l 26 25,.B 27 .neq 26 2]
 (.c 27 (.draw [.m 28 5,.f 29 3 1,.f 30 29 0,.l 31 30,.op 32 (.conv (.int .u8) (.t 31)),.op 33 (.bslice 1 [(.t 32)]),.op 34 (.app 1 1 (.t 28) (.t 33)),.f 35 3 1,.f 36 35 1,.l 37 36,.op 38 (.conv .b2s (.t 37)),.c 39 203 [34,38],.m 5 39] [[],[],[1],[2],[3],[4],[0,5],[],[7],[8],[9],[6,10,6],[11,11,0,1,2,3,4,5,6,7,8,9,10,11]])))
 (.seq (.q [.f 40 3 5,.l 41 40,.B 42 .neq 41 1]
 (.c 42 (.draw [.m 43 5,.f 44 3 3,.f 45 44 0,.l 46 45,.op 47 (.conv (.int .u8) (.t 46)),.op 48 (.bslice 1 [(.t 47)]),.op 49 (.app 1 1 (.t 43) (.t 48)),.f 50 3 3,.f 51 50 1,.l 52 51,.op 53 (.conv .b2s (.t 52)),.c 54 203 [49,53],.m 5 54] [[],[],[1],[2],[3],[4],[0,5],[],[7],[8],[9],[6,10,6],[11,11,0,1,2,3,4,5,6,7,8,9,10,11]])))
 (.q [.m 55 5,.m 4 55]
 .ret))))))⟩
theorem r_i_PutRow {Te:TE} (c_i_joined:C_i_joined Te) (c_i_RowOk:C_i_RowOk Te) (c_i_PutText:C_i_PutText Te) (c_i_flag:C_i_flag Te):C_i_PutRow (RF Te x_i_PutRow):=by
 intro b r hb h
 obtain ⟨h1,h2,h3⟩:=h
 have ea:=areBytes_uR r.Old.B
 have fa:=bytesOf_uR r.Old.B
 have eb:=areBytes_uR r.New.B
 have fb:=bytesOf_uR r.New.B
 have l0:=putText_len b r.Key
 have l1:=putRow1_len b r
 have l2:=putRow2_len b r
 refine X0 x_i_PutRow.eq_1 ?_
 refine .of (c_i_joined [b] (by rw [flat1]; omega) (by show 1≤2 ^ 31; decide)) ?_
 try simp -implicitDefEqProofs (maxSteps:=1000000) only [go_sem,flat1]
 repeat refine ⟨sc,?_⟩
 try exact sf
 refine C0 (c_i_RowOk r ⟨h1,h2,h3⟩) ?_
 cases g:r.ok
 ·try simp -implicitDefEqProofs (maxSteps:=1000000) only [go_sem,putRow,g,if_false,reduceCtorEq]
  repeat refine ⟨sc,?_⟩
  try exact sf
 have ep:putRow b r=putRow3 b r:=if_pos g
 refine G0 ?_
 refine C0 (c_i_PutText b r.Key (by omega) h1) ?_
 refine .of (c_i_flag r.Aside) ?_
 try simp -implicitDefEqProofs (maxSteps:=1000000) only [go_sem,mkU_wrap,app2B,take2B]
 repeat refine ⟨sc,?_⟩
 try exact sf
 have e1:putText b r.Key++[mkU r.Has,bif r.Aside then 1 else 0]=putRow1 b r:=rfl
 have e2:(putText b r.Key).length + 2=(putRow1 b r).length:=by rw [putRow1,List.length_append]; rfl
 simp only [e1,e2]
 have gw:=win13 (rowOk_win g)
 by_cases q2:r.Has=2
 ·have k2:(r.Has != 2)=false:=by simp only [bne_eq_false_iff_eq]; exact q2
  have k1:(r.Has != 1)=true:=by simp only [bne_iff_ne,ne_eq]; omega
  have e3:putRow2 b r=putRow1 b r:=if_pos q2
  have e4:putRow3 b r=putCell (putRow1 b r) r.New:=by rw [putRow3,if_neg (by omega),e3]
  try simp -implicitDefEqProofs (maxSteps:=1000000) only [go_sem,k2,k1,eb,fb,mkU_wrap,app1B,take1B]
  repeat refine ⟨sc,?_⟩
  try exact sf
  have tt:=c_i_PutText (putRow1 b r++[mkU r.New.Tag]) (strOf r.New.B) (by rw [List.length_append]; simp only [List.length_cons,List.length_nil]; omega) (by rw [strOf_size]; exact h3)
  rw [← putCell] at tt
  exact D2 (tt) ep e4
 ·have k2:(r.Has != 2)=true:=by simp only [bne_iff_ne,ne_eq]; exact q2
  have e3:putRow2 b r=putCell (putRow1 b r) r.Old:=if_neg q2
  try simp -implicitDefEqProofs (maxSteps:=1000000) only [go_sem,k2,ea,fa,mkU_wrap,app1B,take1B]
  repeat refine ⟨sc,?_⟩
  try exact sf
  have tt:=c_i_PutText (putRow1 b r++[mkU r.Old.Tag]) (strOf r.Old.B) (by rw [List.length_append]; simp only [List.length_cons,List.length_nil]; omega) (by rw [strOf_size]; exact h2)
  rw [← putCell,← e3] at tt
  refine C0 (tt) ?_
  by_cases q1:r.Has=1
  ·have k1:(r.Has != 1)=false:=by simp only [bne_eq_false_iff_eq]; exact q1
   have e4:putRow3 b r=putRow2 b r:=if_pos q1
   exact F3 k1 ep e4
  ·have k1:(r.Has != 1)=true:=by simp only [bne_iff_ne,ne_eq]; exact q1
   have e4:putRow3 b r=putCell (putRow2 b r) r.New:=if_neg q1
   try simp -implicitDefEqProofs (maxSteps:=1000000) only [go_sem,k1,eb,fb,mkU_wrap,app1B,take1B]
   repeat refine ⟨sc,?_⟩
   try exact sf
   have tt:=c_i_PutText (putRow2 b r++[mkU r.New.Tag]) (strOf r.New.B) (by rw [List.length_append]; simp only [List.length_cons,List.length_nil]; omega) (by rw [strOf_size]; exact h3)
   rw [← putCell] at tt
   exact D2 (tt) ep e4
def x_l_szRowS:FnX:=⟨27,[.tmp 4],
  .q [.i 4 0]
 (.q [.m 6 1,.m 7 0,.n 8 7,.b 9 .sub 6 8,.m 1 9]
 (.seq (.q [.m 10 1,.B 11 .lss 10 0]
 (.c 11 (.q [.i 4 (-1)]
 .ret)))
 (.seq (.q [.i 5 0]
 (.block 0 (.loop [0,1,5] (.seq (.q [.m 12 5,.m 13 0,.n 14 13,.b 15 .lss 12 14]
 (.cond 15 .skip (.exit 0)))
 (.seq (.block 1 (.q [.m 18 0,.m 19 5,.x 20 7 18 19,.L 21 7 20,.m 22 1,.c 23 169 [21,22],.m 1 23]
 (.q [.m 24 1,.B 25 .lss 24 0]
 (.c 25 (.q [.i 4 (-1)]
 .ret)))))
 (.reg [.m 16 5,.B 17 .add 16 1,.m 5 17]))))))
 (.norm [1] (.q [.m 26 1,.m 4 26]
 .ret)))))⟩
theorem r_l_szRowS {Te:TE} (c_l_szRow:C_l_szRow Te):C_l_szRowS (RF Te x_l_szRowS):=by
 intro l k hk hl hs
 refine run0 ?_
 simp -implicitDefEqProofs (maxSteps:=1000000) (disch:=omega) only [x_l_szRowS,go_sem,IntWalk.i64_in]
 refine ⟨fun h=>?_,fun h=>?_⟩
 ·simp only [decide_eq_true_eq] at h
  simp only [szSl,szAll,if_pos h]
 ·simp only [decide_eq_false_iff_not] at h
  refine loop_of (σ:=Nat×Int) (fun x=>⟨[(0,.one (.ro 7 (l.map (RowV.enc false)))),(1,.one (.pv (.int .i64 x.2))),(5,.one (.pv (.int .i64 x.1)))],[],[(0,[slT false 7 (RowV.enc false) l]),(1,[iT k])]⟩) (fun x=>x.1≤l.length∧0≤x.2∧x.2≤k∧szSl szRow l k=szAll ((l.drop x.1).map szRow) x.2) (fun x=>l.length - x.1) (0,k - l.length) ?_ ⟨Nat.zero_le _,by omega,by omega,by simp only [szSl,szAll,if_neg h,List.drop_zero]⟩ ?_
  ·simp -implicitDefEqProofs (maxSteps:=1000000) only [go_sem]; rfl
  ·rintro ⟨i,c⟩ ⟨hi,h0,h1,he⟩
   simp only at hi h0 h1 he
   simp -implicitDefEqProofs (maxSteps:=1000000) only [go_sem]
   refine ⟨fun h=>?_,fun h=>?_⟩
   ·have hi':i < l.length:=by simp only [decide_eq_true_eq] at h; omega
    have hsz:=hs l[i] (List.getElem_mem hi')
    have hsn:szRow l[i] c≤c:=szRow_sane l[i] c h0
    rw [List.drop_eq_getElem_cons hi'] at he
    simp -implicitDefEqProofs (maxSteps:=1000000) (disch:=omega) only [go_sem,List.getElem?_eq_getElem hi',IntWalk.i64_in]
    refine .of (c_l_szRow _ _ hsz ⟨h0,by omega⟩) ?_
    simp -implicitDefEqProofs (maxSteps:=1000000) only [go_sem]
    refine ⟨fun h2=>?_,fun h2=>?_⟩
    ·simp only [decide_eq_true_eq] at h2
     rw [he]
     simp only [List.map_cons,szAll,if_pos h2]
    ·simp only [decide_eq_false_iff_not] at h2
     refine ⟨(i + 1,szRow l[i] c),by rw [IntWalk.i64_in _ (by omega)]; rfl,⟨hi',by omega,by simp only; omega,?_⟩,by simp only; omega⟩
     rw [he]
     simp only [List.map_cons,szAll,if_neg h2]
   ·have hle:l.length≤i:=by simp only [decide_eq_false_iff_not] at h; omega
    rw [List.drop_of_length_le hle] at he
    simp only [szAll,List.map_nil] at he
    rw [he]
def x_l_toRowS:FnX:=⟨23,[.tmp 2],
  .q [.op 2 (.mv (.k (.one (.nils 7))))]
 (.q [.m 5 0,.n 6 5,.op 7 (.mks 7 96 [.pv (.string ⟨#[]⟩),.pv (.int .i64 0),.sl true 1 () [],.pv (.int .i64 0),.sl true 1 () [],.pv (.int .i64 0),.pv (.bool false)] (.t 6)),.m 3 7]
 (.seq (.q [.i 4 0]
 (.block 0 (.loop [0,3,4] (.seq (.q [.m 8 4,.m 9 0,.n 10 9,.b 11 .lss 8 10]
 (.cond 11 .skip (.exit 0)))
 (.seq (.block 1 (.reg [.m 14 3,.m 15 4,.m 16 0,.m 17 4,.x 18 7 16 17,.L 19 7 18,.c 20 182 [19],.x 21 7 14 15,.s 100001 7 21 20]))
 (.reg [.m 12 4,.B 13 .add 12 1,.m 4 13]))))))
 (.norm [3] (.q [.m 22 3,.m 2 22]
 .ret))))⟩
theorem r_l_toRowS {Te:TE} (c_l_toRow:C_l_toRow Te):C_l_toRowS (RF Te x_l_toRowS):=by
 intro l hl
 refine run0 ?_
 have hl1:=hl.1
 simp -implicitDefEqProofs (maxSteps:=1000000) (disch:=omega) only [x_l_toRowS,go_sem,IntWalk.i64_in]
 refine ⟨⟨by simp only [decide_eq_true_eq]; omega,by simp only [decide_eq_true_eq]; omega⟩,?_⟩
 refine loop_of (σ:=Nat) (fun i=>⟨[(0,.one (.ro 7 (l.map (RowV.enc false)))),(3,.one (.rf 24 0 [] 7 0 l.length)),(4,.one (.pv (.int .i64 i)))],[],
  [(0,[slT false 7 (RowV.enc false) l]),(24,[.sl true 7 () ((l.take i).map (RowV.enc true)++List.replicate (l.length - i) [.pv (.string ⟨#[]⟩),.pv (.int .i64 0),.sl true 1 () [],.pv (.int .i64 0),.sl true 1 () [],.pv (.int .i64 0),.pv (.bool false)])])]⟩) (fun i=>i≤l.length) (fun i=>l.length - i) 0 ?_ (Nat.zero_le _) ?_
 ·simp -implicitDefEqProofs (maxSteps:=1000000) only [go_sem]; rfl
 ·intro i hi
  simp -implicitDefEqProofs (maxSteps:=1000000) only [go_sem]
  refine ⟨fun h=>?_,fun h=>?_⟩
  ·have hi':i < l.length:=by simp only [decide_eq_true_eq] at h; omega
   simp -implicitDefEqProofs (maxSteps:=1000000) only [go_sem,List.getElem?_eq_getElem hi',fill_len (RowV.enc true) l [.pv (.string ⟨#[]⟩),.pv (.int .i64 0),.sl true 1 () [],.pv (.int .i64 0),.sl true 1 () [],.pv (.int .i64 0),.pv (.bool false)] hi,storeAp,setCells,List.getD_eq_getElem?_getD,fill_get (RowV.enc true) l [.pv (.string ⟨#[]⟩),.pv (.int .i64 0),.sl true 1 () [],.pv (.int .i64 0),.sl true 1 () [],.pv (.int .i64 0),.pv (.bool false)] hi']
   refine .of (c_l_toRow _ (hl.2 _ (List.getElem_mem hi'))) ?_
   simp -implicitDefEqProofs (maxSteps:=1000000) only [go_sem,fill_len (RowV.enc true) l [.pv (.string ⟨#[]⟩),.pv (.int .i64 0),.sl true 1 () [],.pv (.int .i64 0),.sl true 1 () [],.pv (.int .i64 0),.pv (.bool false)] hi,storeAp,setCells,List.getD_eq_getElem?_getD,fill_get (RowV.enc true) l [.pv (.string ⟨#[]⟩),.pv (.int .i64 0),.sl true 1 () [],.pv (.int .i64 0),.sl true 1 () [],.pv (.int .i64 0),.pv (.bool false)] hi']
   repeat (first | refine ⟨by decide,?_⟩ | refine ⟨by simpa using hi',?_⟩)
   refine ⟨i + 1,?_,hi',by omega⟩
   rw [← fill_set (RowV.enc true) l [.pv (.string ⟨#[]⟩),.pv (.int .i64 0),.sl true 1 () [],.pv (.int .i64 0),.sl true 1 () [],.pv (.int .i64 0),.pv (.bool false)] hi',IntWalk.i64_in _ (by omega)]
   rfl
  ·have:i=l.length:=by simp only [decide_eq_false_iff_not] at h; omega
   subst this
   simp -implicitDefEqProofs (maxSteps:=1000000) only [go_sem,fill_len (RowV.enc true) l [.pv (.string ⟨#[]⟩),.pv (.int .i64 0),.sl true 1 () [],.pv (.int .i64 0),.sl true 1 () [],.pv (.int .i64 0),.pv (.bool false)] hi,fill_end]
   refine ⟨by simp,?_⟩
   simp [take_map]
def x_l_eqRowS:FnX:=⟨27,[.tmp 4],
  .q [.F 4]
 (.seq (.q [.m 6 0,.n 7 6,.m 8 1,.n 9 8,.b 10 .neq 7 9]
 (.c 10 (.q [.F 4]
 .ret)))
 (.seq (.q [.i 5 0]
 (.block 0 (.loop [0,1,5] (.seq (.q [.m 11 5,.m 12 0,.n 13 12,.b 14 .lss 11 13]
 (.cond 14 .skip (.exit 0)))
 (.seq (.block 1 (.seq (.draw [.m 17 0,.m 18 5,.x 19 7 17 18,.L 20 7 19,.m 21 1,.m 22 5,.x 23 7 21 22,.L 24 7 23,.c 25 206 [20,24],.N 26 25] [[],[],[0,1],[2],[],[],[4,5],[6],[3,7],[8]])
 (.c 26 (.q [.F 4]
 .ret))))
 (.reg [.m 15 5,.B 16 .add 15 1,.m 5 16]))))))
 (.norm [] (.q [.T 4]
 .ret))))⟩
theorem r_l_eqRowS {Te:TE} (c_l_eqRow:C_l_eqRow Te):C_l_eqRowS (RF Te x_l_eqRowS):=by
 intro l m hl
 refine run0 ?_
 have hl1:=hl.1
 simp -implicitDefEqProofs (maxSteps:=1000000) (disch:=omega) only [x_l_eqRowS,go_sem,IntWalk.i64_in]
 refine ⟨fun h=>?_,fun h=>?_⟩
 ·have:l≠m:=fun e=>by simp [e] at h
  simp [this]
 ·have hlen:l.length=m.length:=by simp at h; omega
  refine loop_of (σ:=Nat) (fun i=>⟨[(0,.one (.ro 7 (l.map (RowV.enc false)))),(1,.one (.ro 7 (m.map (RowV.enc false)))),(5,.one (.pv (.int .i64 i)))],[],[(0,[slT false 7 (RowV.enc false) l]),(1,[slT false 7 (RowV.enc false) m])]⟩) (fun i=>i≤l.length∧l.take i=m.take i) (fun i=>l.length - i) 0 ?_ ⟨Nat.zero_le _,by simp⟩ ?_
  ·simp -implicitDefEqProofs (maxSteps:=1000000) only [go_sem]; rfl
  ·intro i ⟨hi,hs⟩
   simp -implicitDefEqProofs (maxSteps:=1000000) only [go_sem]
   refine ⟨fun h=>?_,fun h=>?_⟩
   ·have hi':i < l.length:=by simp only [decide_eq_true_eq] at h; omega
    have hj':i < m.length:=by omega
    simp -implicitDefEqProofs (maxSteps:=1000000) only [go_sem,List.getElem?_eq_getElem hi',List.getElem?_eq_getElem hj']
    refine .of (c_l_eqRow _ _ (hl.2 _ (List.getElem_mem hi'))) ?_
    simp -implicitDefEqProofs (maxSteps:=1000000) only [go_sem]
    refine ⟨by decide,fun h2=>?_,fun h2=>?_⟩
    ·have:l≠m:=fun e=>by subst e; simp at h2
     simp [this]
    ·refine ⟨i + 1,by rw [IntWalk.i64_in _ (by omega)]; rfl,⟨hi',same_step hi' hj' hs ?_⟩,by omega⟩
     simpa using h2
   ·have hle:l.length≤i:=by simp only [decide_eq_false_iff_not] at h; omega
    have:l=m:=same_end hle (by omega) hs
    simp [this]
def x_i_Encode:FnX:=⟨44,[.tmp 4,.tmp 5],
  .q [.op 4 (.mv (.k (.one (.nils 1)))),.F 5]
 (.q [.m 14 1,.c 15 230 [14],.m 13 15,.e 16 13 0,.e 17 13 1,.m 6 16,.m 7 17]
 (.seq (.q [.m 18 0,.c 19 79 [18],.N 20 19,.m 21 20,.z 21 (.m 22 7),.z 21 (.N 23 22),.r 24 21 23]
 (.c 24 (.q [.op 4 (.mv (.k (.one (.nils 1)))),.F 5]
 .ret)))
 (.q [.op 25 (.bslice 1 []),.m 8 25]
 (.seq (.q [.m 26 6,.n 27 26,.i 28 0]
 (.block 0 (.loop [0,8,26,27,28] (.q [.b 29 .lss 28 27]
 (.seq (.cond 29 .skip (.exit 0))
 (.seq (.block 1 (.q [.x 30 1 26 28,.l 31 30,.m 10 31]
 (.q [.m 33 0,.m 34 8,.m 35 10,.op 36 (.call 231 [0,1,0] [(.t 33),(.t 34),(.t 35)]),.m 32 36,.e 37 32 0,.e 38 32 1,.m 11 37,.m 12 38]
 (.seq (.q [.m 39 12,.N 40 39]
 (.c 40 (.q [.op 4 (.mv (.k (.one (.nils 1)))),.F 5]
 .ret)))
 (.reg [.m 41 11,.m 8 41])))))
 (.reg [.B 42 .add 28 1,.m 28 42])))))))
 (.norm [8] (.q [.m 43 8,.m 4 43,.T 5]
 .ret))))))⟩
theorem r_i_Encode {Te:TE} (c_i_Signs:C_i_Signs Te) (c_i_isSet:C_i_isSet Te) (c_i_putIn:C_i_putIn Te):C_i_Encode (RF Te x_i_Encode):=by
 intro cs s hs
 have hl:=signsOf_len s
 refine X0 x_i_Encode.eq_1 ?_
 refine C0 (c_i_Signs s (by omega)) ?_
 refine C0 (c_i_isSet cs) ?_
 cases g1:win cs 0 5
 ·have e:encode cs s=([],false):=by rw [encode,g1]; rfl
  exact F1 e
 cases g2:(signsOf s).2
 ·have e:encode cs s=([],false):=by rw [encode,g1,g2]; rfl
  exact F2 g2 e
 have e:encode cs s=encGo cs [] (signsOf s).1:=by rw [encode,g1,g2]; rfl
 refine G1 g2 ?_
 rw [e]
 generalize (signsOf s).1=L at hl
 refine loop_of (σ:=Nat×List UInt8×List T) (fun x=>⟨[(0,.one (.pv (.int .i64 cs))),(8,.one (.rf 46 0 [] 1 0 x.2.1.length)),(26,.one (.rf 47 0 [] 1 0 L.length)),(27,.one (.pv (.int .i64 L.length))),(28,.one (.pv (.int .i64 x.1)))],[],[(0,[iT cs]),(1,[sT s]),(46,slT true 1 uR x.2.1::x.2.2),(47,[slT true 1 iR L,bT true])]⟩) (fun x=>x.1≤L.length∧x.2.1.length≤4 * x.1∧encGo cs x.2.1 (L.drop x.1)=encGo cs [] L) (fun x=>L.length - x.1) (0,[],[]) ?_ ⟨Nat.zero_le _,Nat.le_refl _,rfl⟩ ?_
 ·simp -implicitDefEqProofs (maxSteps:=1000000) only [go_sem]
  try rfl
 ·rintro ⟨i,b,E⟩ ⟨hi,hb,hg⟩
  simp only at hi hb hg
  cases q:decide ((i:Int) < (L.length:Int))
  ·have hd:L.drop i=[]:=List.drop_eq_nil_of_le (by simp only [decide_eq_false_iff_not] at q; omega)
   rw [hd,encGo] at hg
   rw [← hg]
   exact F1 q
  ·have k1:i < L.length:=by simp only [decide_eq_true_eq] at q; omega
   have hp:=putIn_len cs b L[i]
   rw [List.drop_eq_getElem_cons k1,encGo] at hg
   try simp -implicitDefEqProofs (maxSteps:=1000000) only [go_sem,q,List.getD_eq_getElem?_getD,List.getElem?_eq_getElem k1,take_rows]
   repeat refine ⟨sc,?_⟩
   try exact sf
   refine C0 (c_i_putIn cs b L[i] (by omega)) ?_
   cases g:(putIn cs b L[i]).2
   ·rw [g] at hg
    rw [← hg]
    exact F1 g
   ·rw [g] at hg
    refine G1 g ?_
    refine ⟨(i + 1,(putIn cs b L[i]).1,[bT true]),?_,⟨k1,by simp only; omega,hg⟩,by simp only; omega⟩
    rw [IntWalk.i64_in _ (by omega)]
    rfl
def x_s_Encode:FnX:=⟨47,[.tmp 4,.tmp 5],
  .q [.op 4 (.mv (.k (.one (.nils 1)))),.F 5]
 (.q [.op 12 (.bslice 1 []),.m 6 12]
 (.q [.m 14 1,.c 15 210 [14],.m 13 15,.e 16 13 0,.e 17 13 1,.m 7 16,.m 8 17]
 (.seq (.q [.m 18 0,.c 19 65 [18],.N 20 19,.m 21 20,.z 21 (.m 22 8),.z 21 (.N 23 22),.r 24 21 23]
 (.c 24 (.q [.m 25 6,.m 4 25,.F 5]
 .ret)))
 (.seq (.q [.i 9 0]
 (.block 0 (.loop [0,6,7,9] (.seq (.q [.m 26 9,.m 27 7,.n 28 27,.b 29 .lss 26 28]
 (.cond 29 .skip (.exit 0)))
 (.seq (.block 1 (.q [.m 33 0,.m 34 6,.m 35 7,.m 36 9,.x 37 1 35 36,.l 38 37,.c 39 211 [33,34,38],.m 32 39,.e 40 32 0,.e 41 32 1,.m 10 40,.m 11 41]
 (.seq (.q [.m 42 11,.N 43 42]
 (.c 43 (.q [.op 44 (.bslice 1 []),.m 4 44,.F 5]
 .ret)))
 (.reg [.m 45 10,.m 6 45]))))
 (.reg [.m 30 9,.B 31 .add 30 1,.m 9 31]))))))
 (.norm [6] (.q [.m 46 6,.m 4 46,.T 5]
 .ret))))))⟩
theorem r_s_Encode {Te:TE} (c_s_Signs:C_s_Signs Te) (c_s_l5Cs:C_s_l5Cs Te) (c_s_l5Put:C_s_l5Put Te):C_s_Encode (RF Te x_s_Encode):=by
 intro cs s hs
 have hl:=signsOf_len s
 have ho:=signsOf_ok s
 refine X0 x_s_Encode.eq_1 ?_
 refine C0 (c_s_Signs s hs) ?_
 refine C0 (c_s_l5Cs cs) ?_
 cases g1:win cs 0 5
 ·have e:encode cs s=([],false):=by rw [encode,g1]; rfl
  exact F1 e
 cases g2:(signsOf s).2
 ·have e:encode cs s=([],false):=by rw [encode,g1,g2]; rfl
  exact F2 g2 e
 have e:encode cs s=encGo cs [] (signsOf s).1:=by rw [encode,g1,g2]; rfl
 refine G1 g2 ?_
 rw [e]
 generalize (signsOf s).1=L at hl ho
 refine loop_of (σ:=Nat×List UInt8×List T) (fun x=>⟨[(0,.one (.pv (.int .i64 cs))),(6,.one (.rf 49 0 [] 1 0 x.2.1.length)),(7,.one (.rf 50 0 [] 1 0 L.length)),(9,.one (.pv (.int .i64 x.1)))],[],[(0,[iT cs]),(1,[sT s]),(49,slT true 1 uR x.2.1::x.2.2),(50,[slT true 1 iR L,bT true])]⟩) (fun x=>x.1≤L.length∧x.2.1.length≤4 * x.1∧encGo cs x.2.1 (L.drop x.1)=encGo cs [] L) (fun x=>L.length - x.1) (0,[],[]) ?_ ⟨Nat.zero_le _,Nat.le_refl _,rfl⟩ ?_
 ·simp -implicitDefEqProofs (maxSteps:=1000000) only [go_sem]
  try rfl
 ·rintro ⟨i,b,E⟩ ⟨hi,hb,hg⟩
  simp only at hi hb hg
  cases q:decide ((i:Int) < (L.length:Int))
  ·have hd:L.drop i=[]:=List.drop_eq_nil_of_le (by simp only [decide_eq_false_iff_not] at q; omega)
   rw [hd,encGo] at hg
   rw [← hg]
   exact F1 q
  ·have k1:i < L.length:=by simp only [decide_eq_true_eq] at q; omega
   have hp:=putIn_len cs b L[i]
   rw [List.drop_eq_getElem_cons k1,encGo] at hg
   try simp -implicitDefEqProofs (maxSteps:=1000000) only [go_sem,q,List.getD_eq_getElem?_getD,List.getElem?_eq_getElem k1,take_rows]
   repeat refine ⟨sc,?_⟩
   try exact sf
   refine .of (c_s_l5Put cs b L[i] (by omega) (ho _ (List.getElem_mem k1))) ?_
   try simp -implicitDefEqProofs (maxSteps:=1000000) only [go_sem]
   repeat refine ⟨sc,?_⟩
   try exact sf
   cases g:(putIn cs b L[i]).2
   ·rw [g] at hg
    rw [← hg]
    exact F1 g
   ·rw [g] at hg
    refine G1 g ?_
    refine ⟨(i + 1,(putIn cs b L[i]).1,[bT true]),?_,⟨k1,by simp only; omega,hg⟩,by simp only; omega⟩
    rw [IntWalk.i64_in _ (by omega)]
    rfl
def x_i_CellOf:FnX:=⟨27,[.cell 4 (some 2),.tmp 5],
  .q [.op 4 (.alloc [.i 0,.nils 1]),.F 5]
 (.q [.m 10 0,.m 11 1,.c 12 212 [10,11],.m 9 12,.e 13 9 0,.e 14 9 1,.m 6 13,.m 7 14]
 (.q [.m 15 0,.m 16 6,.op 17 (.build [.i 0,.nils 1] [(0,1,(.t 15)),(1,1,(.t 16))]),.op 8 (.alloc [.i 0,.nils 1]),.s 100001 2 8 17]
 (.seq (.q [.m 18 7,.N 19 18,.m 20 19,.z 20 (.L 21 2 8),.z 20 (.c 22 213 [21]),.z 20 (.N 23 22),.r 24 20 23]
 (.c 24 (.q [.op 25 (.build [.i 0,.nils 1] []),.s 100002 2 4 25,.F 5]
 .ret)))
 (.q [.L 26 2 8,.s 100003 2 4 26,.T 5]
 .ret))))⟩
theorem r_i_CellOf {Te:TE} (c_i_Encode:C_i_Encode Te) (c_i_CellOk:C_i_CellOk Te):C_i_CellOf (RF Te x_i_CellOf):=by
 intro tag s hs
 have hl:=encode_len tag s
 refine X0 x_i_CellOf.eq_1 ?_
 refine C0 (c_i_Encode tag s hs) ?_
 cases g:(encode tag s).2
 ·have e:=cellOf_no g
  exact F2 g e
 have gt:=encode_tag g
 refine G1 g ?_
 refine C0 (c_i_CellOk ⟨tag,(encode tag s).1⟩) ?_
 cases g2:decide (((encode tag s).1.length:Int)≤20)
 ·have e:=cellOf_big g2
  try simp -implicitDefEqProofs (maxSteps:=1000000) only [go_sem,CellV.ok,gt,g2,e,take_rows]
  repeat refine ⟨sc,?_⟩
  try exact sf
  try rfl
 ·have e:=cellOf_yes g g2
  try simp -implicitDefEqProofs (maxSteps:=1000000) only [go_sem,CellV.ok,gt,g2,e,take_rows]
  repeat refine ⟨sc,?_⟩
  try exact sf
  try rfl
def x_s_RecsOf:FnX:=⟨57,[.tmp 2],
  .q [.v 1 0,.op 2 (.mv (.k (.one (.nils 13))))]
 (.q [.f 6 1 1,.l 7 6,.op 8 (.build [.i 0,.e,.i 0,.nils 1,.i 0,.nils 1,.i 0,.F,.e,.i 0,.i 0,.i 0,.i 0] [(0,1,(.i 3)),(9,1,(.t 7))]),.op 9 (.bslice 13 [(.t 8)]),.m 3 9]
 (.seq (.q [.i 4 0]
 (.block 0 (.loop [1,3,4] (.seq (.q [.m 10 4,.f 11 1 0,.l 12 11,.n 13 12,.b 14 .lss 10 13]
 (.cond 14 .skip (.exit 0)))
 (.seq (.block 1 (.reg [.m 17 3,.f 18 1 0,.l 19 18,.m 20 4,.x 21 7 19 20,.L 22 7 21,.c 23 159 [22],.op 24 (.build [.i 0,.e,.i 0,.nils 1,.i 0,.nils 1,.i 0,.F,.e,.i 0,.i 0,.i 0,.i 0] [(0,1,(.i 1)),(1,7,(.t 23))]),.op 25 (.bslice 13 [(.t 24)]),.op 26 (.app 13 152 (.t 17) (.t 25)),.m 3 26]))
 (.reg [.m 15 4,.B 16 .add 15 1,.m 4 16]))))))
 (.norm [1,3] (.seq (.q [.i 5 0]
 (.block 2 (.loop [1,3,5] (.seq (.q [.m 27 5,.f 28 1 2,.l 29 28,.n 30 29,.b 31 .lss 27 30]
 (.cond 31 .skip (.exit 2)))
 (.seq (.block 3 (.draw [.m 34 3,.f 35 1 2,.l 36 35,.m 37 5,.x 38 3 36 37,.f 39 38 0,.l 40 39,.f 41 1 2,.l 42 41,.m 43 5,.x 44 3 42 43,.f 45 44 1,.l 46 45,.f 47 1 2,.l 48 47,.m 49 5,.x 50 3 48 49,.f 51 50 2,.l 52 51,.op 53 (.build [.i 0,.e,.i 0,.nils 1,.i 0,.nils 1,.i 0,.F,.e,.i 0,.i 0,.i 0,.i 0] [(0,1,(.i 4)),(10,1,(.t 40)),(11,1,(.t 46)),(12,1,(.t 52))]),.op 54 (.bslice 13 [(.t 53)]),.op 55 (.app 13 152 (.t 34) (.t 54)),.m 3 55] [[],[],[1],[],[2,3],[4],[5],[],[7],[],[8,9],[10],[11],[],[13],[],[14,15],[16],[17],[6,12,18],[19],[0,20],[21,21,0,1,2,3,4,5,6,7,8,9,10,11,12,13,14,15,16,17,18,19,20,21]]))
 (.reg [.m 32 5,.B 33 .add 32 1,.m 5 33]))))))
 (.norm [3] (.q [.m 56 3,.m 2 56]
 .ret))))))⟩
theorem r_s_RecsOf {Te:TE} (c_s_l9Copy:C_s_l9Copy Te):C_s_RecsOf (RF Te x_s_RecsOf):=by
 intro t h
 obtain ⟨⟨hR,hRl⟩,hM⟩:=h
 refine X0 x_s_RecsOf.eq_1 ?_
 refine loop_of (σ:=Nat×List RecV) (fun x=>⟨[(1,.bp 1 0),(3,.one (.rf 58 0 [] 13 0 x.2.length)),(4,.one (.pv (.int .i64 x.1)))],[(1,[.ro 7 (t.Rows.map (RowV.enc false)),.pv (.int .i64 t.Phase),.ro 3 (t.Marks.map MarkV.row)])],[(0,t.enc false),(58,[slT true 13 (RecV.enc true) x.2])]⟩) (fun x=>x.1≤t.Rows.length∧x.2.length=x.1 + 1∧x.2=recPhase t.Phase::(t.Rows.take x.1).map recRow) (fun x=>t.Rows.length - x.1) (0,[recPhase t.Phase]) ?_ ⟨Nat.zero_le _,rfl,rfl⟩ ?_
 ·simp -implicitDefEqProofs (maxSteps:=1000000) only [go_sem]
  try rfl
 ·rintro ⟨i,a⟩ ⟨hi,hl,he⟩
  simp only at hi hl he
  cases q:decide ((i:Int) < (t.Rows.length:Int))
  ·have k0:i=t.Rows.length:=by simp only [decide_eq_false_iff_not] at q; omega
   rw [k0,List.take_length] at he
   refine G1 q ?_
   refine loop_of (σ:=Nat×List RecV) (fun x=>⟨[(1,.bp 1 0),(3,.one (.rf 58 0 [] 13 0 x.2.length)),(5,.one (.pv (.int .i64 x.1)))],[(1,[.ro 7 (t.Rows.map (RowV.enc false)),.pv (.int .i64 t.Phase),.ro 3 (t.Marks.map MarkV.row)])],[(0,t.enc false),(58,[slT true 13 (RecV.enc true) x.2])]⟩) (fun x=>x.1≤t.Marks.length∧x.2.length=t.Rows.length + x.1 + 1∧x.2=recPhase t.Phase::(t.Rows.map recRow++(t.Marks.take x.1).map recMark)) (fun x=>t.Marks.length - x.1) (0,a) ?_ ⟨Nat.zero_le _,by simp only; omega,by simp only [List.take_zero,List.map_nil,List.append_nil]; exact he⟩ ?_
   ·simp -implicitDefEqProofs (maxSteps:=1000000) only [go_sem]
    try rfl
   ·rintro ⟨j,b⟩ ⟨hj,hbl,hbe⟩
    simp only at hj hbl hbe
    cases q2:decide ((j:Int) < (t.Marks.length:Int))
    ·have k2:j=t.Marks.length:=by simp only [decide_eq_false_iff_not] at q2; omega
     rw [k2,List.take_length] at hbe
     have e9:recsOf t=b:=hbe.symm
     have e8:List.take b.length (List.map (RecV.enc true) b)=List.map (RecV.enc true) b:=List.take_of_length_le (by simp)
     exact F3 q2 e9 e8
    ·have k2:j < t.Marks.length:=by simp only [decide_eq_true_eq] at q2; omega
     have ea:List.map (RecV.enc true) b++[[iT 4,sT ⟨#[]⟩,iT 0,Tr.sl true 1 () [],iT 0,Tr.sl true 1 () [],iT 0,bT false,sT ⟨#[]⟩,iT 0,iT t.Marks[j].Who,iT t.Marks[j].Seq,iT t.Marks[j].Code]]=List.map (RecV.enc true) (b++[recMark t.Marks[j]]):=by rw [List.map_append]; rfl
     have et:List.take b.length (List.map (RecV.enc true) b)=List.map (RecV.enc true) b:=List.take_of_length_le (by simp)
     refine G4 q2 (List.getElem?_eq_getElem k2) et ea ?_
     refine ⟨(j + 1,b++[recMark t.Marks[j]]),?_,⟨k2,?_,?_⟩,?_⟩
     ·rw [IntWalk.i64_in _ (by omega)]
      simp only [List.length_append]
      rfl
     ·simp only [List.length_append,List.length_cons,List.length_nil]; omega
     ·rw [hbe,recs_marks k2]
     ·simp only; omega
  ·have k1:i < t.Rows.length:=by simp only [decide_eq_true_eq] at q; omega
   have ea:List.map (RecV.enc true) a++[[iT 1,sT t.Rows[i].Key,iT t.Rows[i].Old.Tag,slT true 1 uR t.Rows[i].Old.B,iT t.Rows[i].New.Tag,slT true 1 uR t.Rows[i].New.B,iT t.Rows[i].Has,bT t.Rows[i].Aside,sT ⟨#[]⟩,iT 0,iT 0,iT 0,iT 0]]=List.map (RecV.enc true) (a++[recRow t.Rows[i]]):=by rw [List.map_append]; rfl
   have et:List.take a.length (List.map (RecV.enc true) a)=List.map (RecV.enc true) a:=List.take_of_length_le (by simp)
   refine G2 q (List.getElem?_eq_getElem k1) ?_
   refine C2 (c_s_l9Copy t.Rows[i] (hRl _ (List.getElem_mem k1))) et ea ?_
   refine ⟨(i + 1,a++[recRow t.Rows[i]]),?_,⟨k1,?_,?_⟩,?_⟩
   ·rw [IntWalk.i64_in _ (by omega)]
    simp only [List.length_append]
    rfl
   ·simp only [List.length_append,List.length_cons,List.length_nil]; omega
   ·rw [he,recs_rows k1]
   ·simp only; omega
def x_s_BackRow:FnX:=⟨24,[.cell 2 (some 7)],
  .q [.v 1 0,.op 2 (.alloc [.e,.i 0,.nils 1,.i 0,.nils 1,.i 0,.F])]
 (.q [.L 4 7 1,.c 5 159 [4],.op 3 (.alloc [.e,.i 0,.nils 1,.i 0,.nils 1,.i 0,.F]),.s 100001 7 3 5]
 (.seq (.q [.L 6 7 1,.c 7 160 [6],.N 8 7,.m 9 8,.z 9 (.L 10 7 1),.z 9 (.c 11 161 [10]),.z 9 (.N 12 11),.r 13 9 12]
 (.c 13 (.q [.L 14 7 3,.s 100002 7 2 14]
 .ret)))
 (.seq (.q [.L 15 7 1,.c 16 163 [15]]
 (.c 16 (.q [.f 17 1 0,.l 18 17,.f 19 3 1,.L 20 2 19,.op 21 (.build [.e,.i 0,.nils 1,.i 0,.nils 1,.i 0,.F] [(0,1,(.t 18)),(1,2,(.t 20)),(5,1,(.i 1))]),.s 100003 7 2 21]
 .ret)))
 (.q [.f 22 3 6,⟨none,none,100004,.store 1 (.t 22) .T⟩]
 (.q [.L 23 7 3,.s 100005 7 2 23]
 .ret)))))⟩
theorem r_s_BackRow {Te:TE} (c_s_l9Copy:C_s_l9Copy Te) (c_s_RowOk:C_s_RowOk Te) (c_s_l9New:C_s_l9New Te) (c_s_l9Old:C_s_l9Old Te):C_s_BackRow (RF Te x_s_BackRow):=by
 intro r h
 have hL:=h.len (by decide)
 refine X0 x_s_BackRow.eq_1 ?_
 refine C0 (c_s_l9Copy r hL) ?_
 refine C0 (c_s_RowOk r (h.mono (by decide))) ?_
 cases g1:r.ok
 ·have e:r.back=r:=by rw [RowV.back,g1]; rfl
  exact F1 e
 have h13:=rowOk_13 g1
 refine G0 ?_
 refine C0 (c_s_l9New r h13) ?_
 by_cases g2:r.Has=1
 ·have e:r.back=r:=by rw [RowV.back,g1,g2]; rfl
  have g5:decide (r.Has≠1)=false:=decide_eq_false (by simpa using g2)
  exact F2 g5 e
 have g5:decide (r.Has≠1)=true:=decide_eq_true g2
 refine G1 g5 ?_
 refine C0 (c_s_l9Old r h13) ?_
 by_cases g3:r.Has=2
 ·have e:r.back=⟨r.Key,r.Old,r.New,r.Has,true⟩:=by rw [RowV.back,g1,g3]; rfl
  have g6:decide (r.Has≠2)=false:=decide_eq_false (by simpa using g3)
  exact F2 g6 e
 ·have g4:r.Has=3:=by omega
  have e:r.back=⟨r.Key,r.Old,⟨0,[]⟩,1,false⟩:=by rw [RowV.back,g1,g4]; rfl
  have g6:decide (r.Has≠2)=true:=decide_eq_true g3
  exact F2 g6 e
def x_i_turnedRow:FnX:=⟨16,[.cell 4 (some 7)],
  .q [.v 3 1,.op 4 (.alloc [.e,.i 0,.nils 1,.i 0,.nils 1,.i 0,.F])]
 (.seq (.q [.m 5 0]
 (.block 0 (.q [.B 7 .eql 5 4,.m 6 7]
 (.cond 6 (.q [.L 8 7 3,.c 9 98 [8],.s 100001 7 4 9]
 .ret) (.q [.B 11 .eql 5 6,.m 10 11]
 (.c 10 (.q [.L 12 7 3,.c 13 99 [12],.s 100002 7 4 13]
 .ret)))))))
 (.q [.L 14 7 3,.c 15 100 [14],.s 100003 7 4 15]
 .ret))⟩
theorem r_i_turnedRow {Te:TE} (c_i_CutRow:C_i_CutRow Te) (c_i_BackRow:C_i_BackRow Te) (c_i_FillRow:C_i_FillRow Te):C_i_turnedRow (RF Te x_i_turnedRow):=by
 intro p r h
 refine run0 ?_
 simp -implicitDefEqProofs (maxSteps:=1000000) only [x_i_turnedRow,go_sem,turned]
 repeat refine ⟨sc,?_⟩
 try exact sf
 cases g4:(p==4)
 ·cases g6:(p==6)
  ·refine G2 g4 g6 ?_
   exact D0 (c_i_FillRow r h)
  ·refine G2 g4 g6 ?_
   exact D0 (c_i_BackRow r h)
 ·refine G1 g4 ?_
  exact D0 (c_i_CutRow r h)
def x_s_l15Turn:FnX:=⟨17,[.cell 4 (some 7)],
  .q [.v 3 1,.op 4 (.alloc [.e,.i 0,.nils 1,.i 0,.nils 1,.i 0,.F])]
 (.seq (.q [.m 5 0]
 (.block 0 (.seq (.q [.B 7 .eql 5 2,.m 6 7]
 (.cond 6 .skip (.reg [.B 8 .eql 5 3,.m 6 8])))
 (.cond 6 (.q [.L 9 7 3,.c 10 94 [9],.s 100001 7 4 10]
 .ret) (.q [.B 12 .eql 5 4,.m 11 12]
 (.c 11 (.q [.L 13 7 3,.c 14 95 [13],.s 100002 7 4 14]
 .ret)))))))
 (.q [.L 15 7 3,.c 16 96 [15],.s 100003 7 4 16]
 .ret))⟩
theorem r_s_l15Turn {Te:TE} (c_s_FillRow:C_s_FillRow Te) (c_s_CutRow:C_s_CutRow Te) (c_s_BackRow:C_s_BackRow Te):C_s_l15Turn (RF Te x_s_l15Turn):=by
 intro p r h hp
 refine run0 ?_
 rcases hp with rfl | rfl | rfl | rfl
 all_goals
  simp -implicitDefEqProofs (maxSteps:=1000000) only [x_s_l15Turn,go_sem,turned]
  repeat refine ⟨sc,?_⟩
  try exact sf
 ·exact D0 (c_s_FillRow r h)
 ·exact D0 (c_s_FillRow r h)
 ·exact D0 (c_s_CutRow r h)
 ·exact D0 (c_s_BackRow r h)
def x_l_szDev:FnX:=⟨18,[.tmp 4],
  .q [.v 2 0,.i 4 0]
 (.q [.f 5 2 0,.l 6 5,.m 7 1,.c 8 102 [6,7],.m 1 8]
 (.seq (.q [.m 9 1,.B 10 .lss 9 0]
 (.c 10 (.q [.i 4 (-1)]
 .ret)))
 (.q [.f 11 2 1,.l 12 11,.m 13 1,.c 14 103 [12,13],.m 1 14]
 (.seq (.q [.m 15 1,.B 16 .lss 15 0]
 (.c 16 (.q [.i 4 (-1)]
 .ret)))
 (.q [.m 17 1,.m 4 17]
 .ret)))))⟩
theorem r_l_szDev {Te:TE} (c_l_szByteSS:C_l_szByteSS Te) (c_l_szWrS:C_l_szWrS Te):C_l_szDev (RF Te x_l_szDev):=by
 intro x k hx hk
 refine run0 ?_
 obtain ⟨h0,h1⟩:=hx
 simp -implicitDefEqProofs (maxSteps:=1000000) (disch:=omega) only [x_l_szDev,go_sem,IntWalk.i64_in]
 refine .of (c_l_szByteSS _ _ hk h0.1 h0.2) ?_
 simp -implicitDefEqProofs (maxSteps:=1000000) (disch:=omega) only [go_sem,IntWalk.i64_in]
 refine ⟨fun q0=>?_,fun q0=>?_⟩
 ·simp only [decide_eq_true_eq] at q0
  simp only [szDev,szAll,if_pos q0]
 ·simp only [decide_eq_false_iff_not] at q0
  have k1:0≤(szSl (fun y k=>left (k - y.length)) x.Secs k)∧(szSl (fun y k=>left (k - y.length)) x.Secs k)≤2 ^ 48:=⟨by omega,Int.le_trans ((Sane.sl (fun _=>Sane.left _) _) _ hk.1) hk.2⟩
  refine .of (c_l_szWrS _ _ k1 h1.1 h1.2) ?_
  simp -implicitDefEqProofs (maxSteps:=1000000) (disch:=omega) only [go_sem,IntWalk.i64_in]
  refine ⟨fun q1=>?_,fun q1=>?_⟩
  ·simp only [decide_eq_true_eq] at q1
   simp only [szDev,szAll,if_neg q0,if_pos q1]
  ·simp only [decide_eq_false_iff_not] at q1
   have k2:0≤(szSl szWr x.Cache (szSl (fun y k=>left (k - y.length)) x.Secs k))∧(szSl szWr x.Cache (szSl (fun y k=>left (k - y.length)) x.Secs k))≤2 ^ 48:=⟨by omega,Int.le_trans ((Sane.sl szWr_sane _) _ k1.1) k1.2⟩
   simp only [szDev,szAll,if_neg q0,if_neg q1]
def x_l_toDev:FnX:=⟨19,[.cell 2 (some 4)],
  .q [.v 1 0,.op 2 (.alloc [.nils 1,.nils 2,.i 0,.F])]
 (.q [.op 3 (.alloc [.nils 1,.nils 2,.i 0,.F])]
 (.q [.f 4 1 0,.l 5 4,.c 6 125 [5],.f 7 3 0,.s 100001 1 7 6]
 (.q [.f 8 1 1,.l 9 8,.c 10 126 [9],.f 11 3 1,.s 100002 1 11 10]
 (.q [.f 12 1 2,.l 13 12,.f 14 3 2,.s 100003 1 14 13]
 (.q [.f 15 1 3,.l 16 15,.f 17 3 3,.s 100004 1 17 16]
 (.q [.L 18 4 3,.s 100005 4 2 18]
 .ret))))))⟩
theorem r_l_toDev {Te:TE} (c_l_toByteSS:C_l_toByteSS Te) (c_l_toWrS:C_l_toWrS Te):C_l_toDev (RF Te x_l_toDev):=by
 intro x hx
 refine run0 ?_
 obtain ⟨h0,h1⟩:=hx
 simp -implicitDefEqProofs (maxSteps:=1000000) only [x_l_toDev,go_sem]
 refine C0 (c_l_toByteSS _ h0) ?_
 exact D0 (c_l_toWrS _ h1)
def x_l_eqDev:FnX:=⟨27,[.tmp 4],
  .q [.v 2 0,.v 3 1,.F 4]
 (.seq (.q [.f 5 2 0,.l 6 5,.f 7 3 0,.l 8 7,.c 9 143 [6,8],.N 10 9]
 (.c 10 (.q [.F 4]
 .ret)))
 (.seq (.q [.f 11 2 1,.l 12 11,.f 13 3 1,.l 14 13,.c 15 144 [12,14],.N 16 15]
 (.c 16 (.q [.F 4]
 .ret)))
 (.seq (.q [.f 17 2 2,.l 18 17,.f 19 3 2,.l 20 19,.b 21 .neq 18 20]
 (.c 21 (.q [.F 4]
 .ret)))
 (.seq (.q [.f 22 2 3,.l 23 22,.f 24 3 3,.l 25 24,.op 26 (.beq true (.t 23) (.t 25))]
 (.c 26 (.q [.F 4]
 .ret)))
 (.q [.T 4]
 .ret)))))⟩
theorem r_l_eqDev {Te:TE} (c_l_eqByteSS:C_l_eqByteSS Te) (c_l_eqWrS:C_l_eqWrS Te):C_l_eqDev (RF Te x_l_eqDev):=by
 intro x y hx
 refine run0 ?_
 obtain ⟨h0,h1⟩:=hx
 have key:(x=y)↔x.Secs=y.Secs∧x.Cache=y.Cache∧x.Fuse=y.Fuse∧x.Down=y.Down:=by cases x; cases y; simp
 simp only [key]
 clear key
 simp -implicitDefEqProofs (maxSteps:=1000000) only [x_l_eqDev,go_sem]
 refine .of (c_l_eqByteSS _ _ h0) ?_
 simp -implicitDefEqProofs (maxSteps:=1000000) only [go_sem]
 refine ⟨fun q=>?_,fun q=>?_⟩
 ·have n0:¬ (x.Secs=y.Secs):=by simpa using q
  simp only [n0,false_and,and_false,true_and,decide_false]
 have e0:x.Secs=y.Secs:=by simpa using q
 clear q
 refine .of (c_l_eqWrS _ _ h1) ?_
 simp -implicitDefEqProofs (maxSteps:=1000000) only [go_sem]
 refine ⟨fun q=>?_,fun q=>?_⟩
 ·have n1:¬ (x.Cache=y.Cache):=by simpa using q
  simp only [e0,n1,false_and,and_false,true_and,decide_false]
 have e1:x.Cache=y.Cache:=by simpa using q
 clear q
 refine ⟨fun q=>?_,fun q=>?_⟩
 ·have n2:¬ (x.Fuse=y.Fuse):=by simpa using q
  simp only [e0,e1,n2,false_and,and_false,true_and,decide_false]
 have e2:x.Fuse=y.Fuse:=by simpa using q
 clear q
 refine ⟨fun q=>?_,fun q=>?_⟩
 ·have n3:¬ (x.Down=y.Down):=by simpa using q
  simp only [e0,e1,e2,n3,false_and,and_false,true_and,decide_false]
 have e3:x.Down=y.Down:=by simpa using q
 clear q
 simp only [e0,e1,e2,e3,true_and,and_true,decide_true]
def x_l_markDev:FnX:=⟨14,[.tmp 4],
  .q [.v 2 0,.i 4 0]
 (.q [.f 5 2 0,.l 6 5,.m 7 1,.op 8 (.io 147 (.t 6) [(.t 7)]),.m 1 8]
 (.q [.f 9 2 1,.l 10 9,.m 11 1,.op 12 (.io 148 (.t 10) [(.t 11)]),.m 1 12]
 (.q [.m 13 1,.m 4 13]
 .ret)))⟩
theorem r_l_markDev {Te:TE} (c_l_markByteSS:C_l_markByteSS Te) (c_l_markWrS:C_l_markWrS Te):C_l_markDev (RF Te x_l_markDev):=by
 intro x k hx hk
 refine run0 ?_
 obtain ⟨h0,h1⟩:=hx
 simp -implicitDefEqProofs (maxSteps:=1000000) only [x_l_markDev,go_sem]
 repeat (refine ⟨by decide,?_⟩)
 refine .of (c_l_markByteSS _ _ h0 (by omega)) ?_
 simp -implicitDefEqProofs (maxSteps:=1000000) only [go_sem]
 repeat (refine back_bif (by simp -implicitDefEqProofs (maxSteps:=1000000) only [go_sem]) ?_; simp -implicitDefEqProofs (maxSteps:=1000000) only [go_sem])
 have w0:=farL_le (k:=k) (c:=2097152) h0 (fun (y:List UInt8) (hy:y.length≤2 ^ 21) (k:Int)=>⟨by show k≤k + ((1 * y.length:Nat):Int); omega,by show k + ((1 * y.length:Nat):Int)≤_; omega⟩)
 repeat (refine ⟨by decide,?_⟩)
 refine .of (c_l_markWrS _ _ h1 (by omega)) ?_
 simp -implicitDefEqProofs (maxSteps:=1000000) only [go_sem]
 repeat (refine back_bif (by simp -implicitDefEqProofs (maxSteps:=1000000) only [go_sem]) ?_; simp -implicitDefEqProofs (maxSteps:=1000000) only [go_sem])
 have w1:=farL_le (k:=(farL (fun y k=>k + (1 * y.length:Nat)) x.Secs (k))) (c:=2097153) h1 (fun y hy k=>WrV.farE_le hy k)
 rfl
def x_l_heldDev:FnX:=⟨18,[.tmp 4],
  .q [.v 2 0,.i 4 0]
 (.q [.f 5 2 0,.l 6 5,.m 7 1,.c 8 151 [6,7],.m 1 8]
 (.seq (.q [.m 9 1,.B 10 .lss 9 0]
 (.c 10 (.q [.i 4 (-1)]
 .ret)))
 (.q [.f 11 2 1,.l 12 11,.m 13 1,.c 14 152 [12,13],.m 1 14]
 (.seq (.q [.m 15 1,.B 16 .lss 15 0]
 (.c 16 (.q [.i 4 (-1)]
 .ret)))
 (.q [.m 17 1,.m 4 17]
 .ret)))))⟩
theorem r_l_heldDev {Te:TE} (c_l_heldByteSS:C_l_heldByteSS Te) (c_l_heldWrS:C_l_heldWrS Te):C_l_heldDev (RF Te x_l_heldDev):=by
 intro x k hx hk
 refine run0 ?_
 obtain ⟨h0,h1⟩:=hx
 simp -implicitDefEqProofs (maxSteps:=1000000) only [x_l_heldDev,go_sem]
 refine .of (c_l_heldByteSS x.Secs _ h0 (by omega)) ?_
 simp -implicitDefEqProofs (maxSteps:=1000000) only [go_sem]
 have w0:=farL_le (k:=k) (c:=2097152) h0 (fun (y:List UInt8) (hy:y.length≤2 ^ 21) (k:Int)=>⟨by show k≤k + ((1 * y.length:Nat):Int); omega,by show k + ((1 * y.length:Nat):Int)≤_; omega⟩)
 refine ⟨fun q=>by simp only [decide_eq_true_eq] at q; omega,fun _=>?_⟩
 refine .of (c_l_heldWrS x.Cache _ h1 (by omega)) ?_
 simp -implicitDefEqProofs (maxSteps:=1000000) only [go_sem]
 have w1:=farL_le (k:=(farL (fun y k=>k + (1 * y.length:Nat)) x.Secs (k))) (c:=2097153) h1 (fun y hy k=>WrV.farE_le hy k)
 refine ⟨fun q=>by simp only [decide_eq_true_eq] at q; omega,fun _=>?_⟩
 rfl
def x_s_NodePhase:FnX:=⟨30,[.cell 4 (some 10),.tmp 5],
  .q [.v 2 0,.op 4 (.alloc [.nils 1,.nils 2,.i 0,.F,.nils 7,.i 0,.nils 3,.i 0,.i 0,.i 0]),.F 5]
 (.q [.L 7 10 2,.c 8 27 [7],.op 6 (.alloc [.nils 1,.nils 2,.i 0,.F,.nils 7,.i 0,.nils 3,.i 0,.i 0,.i 0]),.s 100001 10 6 8]
 (.seq (.q [.L 9 10 2,.c 10 28 [9],.N 11 10]
 (.c 11 (.q [.L 12 10 6,.s 100002 10 4 12,.F 5]
 .ret)))
 (.seq (.q [.f 13 2 0,.f 14 13 4,.f 15 14 1,.l 16 15,.m 17 1,.c 18 42 [16,17]]
 (.c 18 (.reg [.f 19 6 0,.m 20 1,.op 21 (.build [.i 0,.e,.i 0,.nils 1,.i 0,.nils 1,.i 0,.F,.e,.i 0,.i 0,.i 0,.i 0] [(0,1,(.i 3)),(9,1,(.t 20))]),.op 22 (.call 31 [11,0] [(.t 19),(.t 21)])])))
 (.seq (.draw [.L 23 10 6,.f 24 6 0,.f 25 24 4,.f 26 25 1,.l 27 26,.m 28 1,.b 29 .eql 27 28,.s 100003 10 4 23,.m 5 29] [[],[],[1],[2],[3],[],[4,5],[0,0],[6,7,0,1,2,3,4,5,6,7]])
 .ret))))⟩
theorem r_s_NodePhase {Te:TE} (c_s_l15Copy:C_s_l15Copy Te) (c_s_l15Up:C_s_l15Up Te) (c_s_NextOk:C_s_NextOk Te) (c_s_l13Add:C_s_l13Add Te):C_s_NodePhase (RF Te x_s_NodePhase):=by
 intro n p hn
 have hL:=hn.len (by decide)
 refine X0 x_s_NodePhase.eq_1 ?_
 refine C0 (c_s_l15Copy n hL) ?_
 refine C0 (c_s_l15Up n (hn.mono (by decide))) ?_
 cases g1:n.up
 ·have e:n.phase p=(n,false):=by rw [NodeV.phase,g1]; rfl
  exact F1 e
 obtain ⟨k1,k2,_⟩:=up_ok g1
 have e:n.phase p=(n.phase1 p,(n.phase1 p).S.T.Phase==p):=by rw [NodeV.phase,g1]; rfl
 refine G0 ?_
 refine C0 (c_s_NextOk _ _) ?_
 cases g2:nextOk n.S.T.Phase p
 ·have e1:n.phase1 p=n:=by rw [NodeV.phase1,g2]; rfl
  exact F2 e e1
 ·have e1:n.phase1 p=n.added (recPh p):=by rw [NodeV.phase1,g2]; rfl
  refine G0 ?_
  refine .of (c_s_l13Add n.S (recPh p) k1 k2 hn.2 (recPh_in p _)) ?_
  try simp -implicitDefEqProofs (maxSteps:=1000000) only [go_sem,e,e1,NodeV.added,NodeV.enc,take_all,take_marks]
  repeat refine ⟨sc,?_⟩
  try exact sf
  try rfl
def x_i_NodeLoad:FnX:=⟨62,[.cell 6 (some 10),.tmp 7],
  .q [.v 3 0,.op 6 (.alloc [.nils 1,.nils 2,.i 0,.F,.nils 7,.i 0,.nils 3,.i 0,.i 0,.i 0]),.i 7 0]
 (.seq (.q [.L 12 10 3,.c 13 33 [12],.N 14 13,.m 15 14,.z 15 (.m 16 1),.z 15 (.c 17 34 [16]),.z 15 (.N 18 17),.r 19 15 18,.m 20 19,.z 20 (.m 21 2),.z 20 (.n 22 21),.z 20 (.B 23 .gtr 22 20),.r 24 20 23]
 (.c 24 (.q [.L 25 10 3,.c 26 35 [25],.s 100001 10 6 26,.i 7 1]
 .ret)))
 (.seq (.q [.f 27 3 0,.f 28 27 4,.f 29 28 1,.l 30 29,.B 31 .neq 30 0]
 (.c 31 (.q [.L 32 10 3,.c 33 35 [32],.s 100002 10 6 33,.i 7 6]
 .ret)))
 (.q [.f 35 3 9,.l 36 35,.m 37 2,.c 38 36 [36,37],.m 34 38,.e 39 34 0,.e 40 34 1,.m 8 39,.m 9 40]
 (.seq (.draw [.m 41 1,.f 42 3 9,.l 43 42,.m 44 2,.op 45 (.bslice 1 [(.t 44)]),.c 46 37 [45],.op 47 (.build [.i 0,.nils 1] [(0,1,(.t 43)),(1,1,(.t 46))]),.m 48 9,.N 49 48,.op 50 (.build [.e,.i 0,.nils 1,.i 0,.nils 1,.i 0,.F] [(0,1,(.t 41)),(1,2,(.t 47)),(5,1,(.i 1)),(6,1,(.t 49))]),.op 10 (.alloc [.e,.i 0,.nils 1,.i 0,.nils 1,.i 0,.F]),.s 100003 7 10 50] [[],[],[1],[],[3],[4],[2,5],[],[7],[0,6,8],[],[10,9,5,0,1,2,3,4,5,6,7,8,9,10]])
 (.q [.L 52 10 3,.L 53 7 10,.op 54 (.build [.i 0,.e,.i 0,.nils 1,.i 0,.nils 1,.i 0,.F,.e,.i 0,.i 0,.i 0,.i 0] [(0,1,(.i 1)),(1,7,(.t 53))]),.c 55 38 [52,54],.m 51 55,.e 56 51 0,.e 57 51 1,.op 11 (.alloc [.nils 1,.nils 2,.i 0,.F,.nils 7,.i 0,.nils 3,.i 0,.i 0,.i 0]),.s 100004 10 11 56,.m 9 57]
 (.seq (.q [.m 58 9,.N 59 58]
 (.c 59 (.q [.L 60 10 11,.s 100005 10 6 60,.i 7 5]
 .ret)))
 (.q [.L 61 10 11,.s 100006 10 6 61,.i 7 0]
 .ret)))))))⟩
theorem r_i_NodeLoad {Te:TE} (c_i_isUp:C_i_isUp Te) (c_i_NameOk:C_i_NameOk Te) (c_i_copyNode:C_i_copyNode Te) (c_i_Decode:C_i_Decode Te) (c_i_joined:C_i_joined Te) (c_i_added:C_i_added Te):C_i_NodeLoad (RF Te x_i_NodeLoad):=by
 intro n key b hn hk hb
 have hL:=hn.len (by decide)
 refine X0 x_i_NodeLoad.eq_1 ?_
 refine C0 (c_i_isUp n (hn.mono (by decide))) ?_
 cases g1:n.up
 ·have e:n.load key b=(n,1):=by rw [NodeV.load,g1]; rfl
  refine G0 ?_
  exact D1 (c_i_copyNode n hL) e
 refine G0 ?_
 refine C0 (c_i_NameOk key (by omega)) ?_
 cases g2:nameOk key
 ·have e:n.load key b=(n,1):=by rw [NodeV.load,g1,g2]; rfl
  refine G0 ?_
  exact D1 (c_i_copyNode n hL) e
 cases g3:decide ((b.length:Int)≤20)
 ·have e:n.load key b=(n,1):=by rw [NodeV.load,g1,g2,g3]; rfl
  try simp -implicitDefEqProofs (maxSteps:=1000000) only [go_sem,gt20,g3]
  repeat refine ⟨sc,?_⟩
  try exact sf
  exact D1 (c_i_copyNode n hL) e
 cases g4:(n.S.T.Phase==0)
 ·have e:n.load key b=(n,6):=by rw [NodeV.load,g1,g2,g3,g4]; rfl
  have g5:(n.S.T.Phase != 0)=true:=by rw [bne_not,g4]; rfl
  try simp -implicitDefEqProofs (maxSteps:=1000000) only [go_sem,gt20,g3,g4,g5]
  repeat refine ⟨sc,?_⟩
  try exact sf
  exact D1 (c_i_copyNode n hL) e
 have g5:(n.S.T.Phase != 0)=false:=by rw [bne_not,g4]; rfl
 have e:n.load key b=(n.added (loadRec n key b),bif (n.S.add (loadRec n key b)).2 then 0 else 5):=by rw [NodeV.load,g1,g2,g3,g4]; rfl
 have t1:=c_i_joined [b] (by simp only [flat1]; omega) (by simp)
 rw [flat1] at t1
 have t2:=c_i_added n (loadRec n key b) hn (loadRec_in n hk hb)
 cases g6:(decode n.Cs b).2
 all_goals
  simp only [loadRec,g6,Bool.not_false,Bool.not_true] at t2 e
  try simp -implicitDefEqProofs (maxSteps:=1000000) only [go_sem,gt20,g3,g4,g5]
  repeat refine ⟨sc,?_⟩
  try exact sf
  refine .of (c_i_Decode n.Cs b hb) ?_
  try simp -implicitDefEqProofs (maxSteps:=1000000) only [go_sem,take_rows]
  repeat refine ⟨sc,?_⟩
  try exact sf
  rw [g6]
  try simp -implicitDefEqProofs (maxSteps:=1000000) only [go_sem,g6,take_rows]
  repeat refine ⟨sc,?_⟩
  try exact sf
  refine .of (t1) ?_
  try simp -implicitDefEqProofs (maxSteps:=1000000) only [go_sem,take_rows]
  repeat refine ⟨sc,?_⟩
  try exact sf
  refine .of (t2) ?_
  try simp -implicitDefEqProofs (maxSteps:=1000000) only [go_sem,take_all,take_marks]
  repeat refine ⟨sc,?_⟩
  try exact sf
  cases g7:(n.S.add (RecV.mk 1 ⟨key,⟨n.Cs,b⟩,⟨0,[]⟩,1,!(decode n.Cs b).2⟩ ⟨#[]⟩ 0 0 0 0)).2
  all_goals
   rw [g6] at g7
   simp only [Bool.not_false,Bool.not_true] at g7
   try simp -implicitDefEqProofs (maxSteps:=1000000) only [go_sem,g7,e,NodeV.added,NodeV.enc,take_all,take_marks]
   repeat refine ⟨sc,?_⟩
   try exact sf
   try rfl
def x_i_PutText:FnX:=⟨19,[.tmp 4],
  .q [.op 4 (.mv (.k (.one (.nils 1))))]
 (.seq (.q [.m 5 1,.op 6 (.slen (.t 5)),.B 7 .gtr 6 60]
 (.c 7 (.q [.m 8 0,.op 9 (.bslice 1 [(.t 8)]),.c 10 37 [9],.m 4 10]
 .ret)))
 (.q [.m 11 0,.m 12 1,.op 13 (.slen (.t 12)),.c 14 201 [11,13],.m 15 1,.op 16 (.conv .s2b (.t 15)),.op 17 (.bslice 1 [(.t 14),(.t 16)]),.c 18 37 [17],.m 4 18]
 .ret))⟩
theorem r_i_PutText {Te:TE} (c_i_joined:C_i_joined Te) (c_i_PutW:C_i_PutW Te):C_i_PutText (RF Te x_i_PutText):=by
 intro b t h ht
 refine run0 ?_
 simp -implicitDefEqProofs (maxSteps:=1000000) only [x_i_PutText,go_sem]
 refine ⟨fun q=>?_,fun q=>?_⟩
 ·have q':(t.size:Int) > 60:=by simpa using q
  simp only [putText,if_pos q']
  refine .of (c_i_joined [b] (by rw [flat1]; omega) (by show 1≤2 ^ 31; decide)) ?_
  try simp -implicitDefEqProofs (maxSteps:=1000000) only [go_sem,flat1]
  repeat refine ⟨sc,?_⟩
  try exact sf
 ·have q':¬ ((t.size:Int) > 60):=by simpa using q
  have q3:t.data.toList.length=t.size:=by rw [Array.length_toList]; rfl
  have el:=putW_len b t.size
  simp only [putText,if_neg q']
  refine .of (c_i_PutW b _ (by omega)) ?_
  try simp -implicitDefEqProofs (maxSteps:=1000000) only [go_sem,ofBytes_eq]
  repeat refine ⟨sc,?_⟩
  try exact sf
  refine .of (c_i_joined [putW b t.size,t.data.toList] (by rw [flat2,List.length_append,el]; omega) (by show 2≤2 ^ 31; decide)) ?_
  simp -implicitDefEqProofs (maxSteps:=1000000) only [go_sem,flat2]
  refine ⟨decide_eq_true (Nat.le_refl _),?_⟩
  rw [List.take_of_length_le (by rw [List.length_map,List.length_append]; exact Nat.le_refl _)]
end Go.X

