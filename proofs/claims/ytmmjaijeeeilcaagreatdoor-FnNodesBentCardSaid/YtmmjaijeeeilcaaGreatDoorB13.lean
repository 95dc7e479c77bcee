/- Texts: CVu_2 CVi_3 CVzs_2 CP CVzb_2 CVj CVu CVzm CVs_2 CK CUe CVg_4. -/
import Derived.Test.YtmmjaijeeeilcaaGreatDoorB04
set_option linter.unusedVariables false
set_option linter.unusedSimpArgs false
namespace Go.X
set_option maxRecDepth 100000
set_option maxHeartbeats 8000000
def x_i_Add_1:XCode:=.seq (.q [.f 36 6 0,.f 37 36 3,.l 38 37,.m 39 38,.z 39 (.f 40 6 8),.z 39 (.l 41 40),.z 39 (.B 42 .eql 41 30),.r 43 39 42]
 (.c 43 (.q [.L 44 9 6,.s 100005 9 4 44,.F 5]
 .ret)))
 (.seq (.draw [.f 45 6 0,.L 46 4 45,.f 47 6 7,.l 48 47,.f 49 6 8,.l 50 49,.c 51 258 [48,50],.f 52 6 7,.l 53 52,.f 54 6 8,.l 55 54,.L 56 13 3,.c 57 259 [53,55,56],.c 58 257 [46,51,57],.f 59 6 0,.s 100006 4 59 58] [[],[0],[],[2],[],[4],[3,5],[],[7],[],[9],[],[8,10,11,6],[1,6,12,12],[0,1,2,3,4,5,6,7,8,9,10,11,12,13],[14,13,13,0,1,2,3,4,5,6,7,8,9,10,11,12,13]])
 (.q [.f 60 6 0,.L 61 4 60,.c 62 260 [61],.f 63 6 0,.s 100007 4 63 62]
 (.seq (.q [.f 64 6 0,.f 65 64 3,.l 66 65]
 (.c 66 (.q [.L 67 9 6,.s 100008 9 4 67,.F 5]
 .ret)))
 (.q [.f 68 6 8,.l 69 68,.B 70 .add 69 1,.f 71 6 8,.s 100009 1 71 70]
 (.q [.L 72 3 7,.f 73 6 4,.s 100010 3 73 72]
 (.q [.L 74 9 6,.s 100011 9 4 74,.T 5]
 .ret))))))
def x_i_Add:FnX:=⟨75,[.cell 4 (some 9),.tmp 5],
  .q [.v 2 0,.v 3 1,.op 4 (.alloc [.nils 1,.nils 2,.i 0,.F,.nils 7,.i 0,.nils 3,.i 0,.i 0]),.F 5]
 (.q [.L 9 9 2,.c 10 158 [9],.op 6 (.alloc [.nils 1,.nils 2,.i 0,.F,.nils 7,.i 0,.nils 3,.i 0,.i 0]),.s 100001 9 6 10]
 (.q [.f 12 2 4,.L 13 3 12,.L 14 13 3,.c 15 255 [13,14],.m 11 15,.e 16 11 0,.e 17 11 1,.op 7 (.alloc [.nils 7,.i 0,.nils 3]),.s 100002 3 7 16,.m 8 17]
 (.seq (.q [.L 18 9 2,.c 19 89 [18],.N 20 19,.m 21 20,.z 21 (.f 22 2 0),.z 21 (.f 23 22 3),.z 21 (.l 24 23),.r 25 21 24,.m 26 25,.z 26 (.m 27 8),.z 26 (.N 28 27),.r 29 26 28]
 (.c 29 (.q [.L 30 9 6,.s 100003 9 4 30,.F 5]
 .ret)))
 (.seq (.q [.f 31 6 8,.l 32 31,.B 33 .eql 32 30]
 (.c 33 (.reg [.L 34 9 6,.c 35 256 [34],.s 100004 9 6 35])))
 (.norm [3,4,6,7] (x_i_Add_1))))))⟩
theorem r_i_Add {Te:TE} (c_i_copyStore:C_i_copyStore Te) (c_i_Apply:C_i_Apply Te) (c_i_StoreOk:C_i_StoreOk Te) (c_i_Lay:C_i_Lay Te) (c_i_sectorOf:C_i_sectorOf Te) (c_i_PutRec:C_i_PutRec Te) (c_i_WriteSec:C_i_WriteSec Te) (c_i_FlushDev:C_i_FlushDev Te):C_i_Add (RF Te x_i_Add):=by
 intro s r hs hr
 have hL:=hs.len (by decide)
 refine X0 x_i_Add.eq_1 ?_
 refine C0 (c_i_copyStore s hL) ?_
 refine C0 (c_i_Apply s.T r hs.2 hr) ?_
 refine C0 (c_i_StoreOk s (hs.mono (by decide))) ?_
 cases g1:s.ok
 ·have e:s.add r=(s,false):=by rw [StoreV.add,StoreV.fits,g1]; rfl
  try simp -implicitDefEqProofs (maxSteps:=1000000) only [go_sem,e,take_all,take_marks,StoreV.enc]
  repeat refine ⟨sc,?_⟩
  try exact sf
  try rfl
 cases g2:s.D.Down
 rotate_left
 ·have e:s.add r=(s,false):=by rw [StoreV.add,StoreV.fits,g1,g2]; rfl
  try simp -implicitDefEqProofs (maxSteps:=1000000) only [go_sem,g2,e,take_all,take_marks,StoreV.enc]
  repeat refine ⟨sc,?_⟩
  try exact sf
  try rfl
 cases g3:(s.T.apply r).2
 ·have e:s.add r=(s,false):=by rw [StoreV.add,StoreV.fits,g1,g2,g3]; rfl
  try simp -implicitDefEqProofs (maxSteps:=1000000) only [go_sem,g2,g3,e,take_all,take_marks,StoreV.enc]
  repeat refine ⟨sc,?_⟩
  try exact sf
  try rfl
 have e:s.add r=s.room.end (s.T.apply r).1 r:=by rw [StoreV.add,StoreV.fits,g1,g2,g3]; rfl
 have hr8:=hr.mono (m:=2 ^ 48) (by decide)
 have q:=room_ok g1 hs.2
 have hk1:=(StoreV.ok_iff s).1 g1
 rw [e]
 generalize (s.T.apply r).1=t
 clear e
 cases g4:(s.Place==30)
 ·have er:s.room=s:=by rw [StoreV.room,g4]; rfl
  rw [er] at q ⊢
  have f2:=write_ok q.1 (secOf s.Gen s.Place) (putRec s.Gen s.Place r)
  have hp:=putRec_len s.Gen s.Place r
  have ew:IntKind.i64.wrap (s.Place + 1)=s.Place + 1:=IntWalk.i64_in _ (by omega)
  have t1:=c_i_WriteSec s.D (secOf s.Gen s.Place) (putRec s.Gen s.Place r) q.1 (by omega)
  simp only [DevV.enc,g2] at t1
  refine G2 g2 g4 ?_
  simp -implicitDefEqProofs (maxSteps:=1000000) only [x_i_Add_1,go_sem,g4]
  repeat refine ⟨sc,?_⟩
  refine C0 (c_i_sectorOf _ _) ?_
  refine C0 (c_i_PutRec s.Gen s.Place r hr8) ?_
  refine C0 (t1) ?_
  refine C0 (c_i_FlushDev _ f2) ?_
  have el:((s.D.write (secOf s.Gen s.Place) (putRec s.Gen s.Place r)).flush)=s.log r:=rfl
  rw [el]
  cases g9:(s.log r).Down
  ·have e2:s.end t r=(⟨s.log r,t,s.Gen,s.Place + 1⟩,true):=by rw [StoreV.end,g2,g4,g9]; rfl
   try simp -implicitDefEqProofs (maxSteps:=1000000) only [go_sem,g9,ew,e2,take_all,take_marks,StoreV.enc]
   repeat refine ⟨sc,?_⟩
   try exact sf
   try rfl
  ·have e2:s.end t r=(⟨s.log r,s.T,s.Gen,s.Place⟩,false):=by rw [StoreV.end,g2,g4,g9]; rfl
   try simp -implicitDefEqProofs (maxSteps:=1000000) only [go_sem,g9,e2,take_all,take_marks,StoreV.enc]
   repeat refine ⟨sc,?_⟩
   try exact sf
   try rfl
 ·have er:s.room=s.relay:=by rw [StoreV.room,g4]; rfl
  rw [er] at q ⊢
  have tl:=c_i_Lay s hs
  simp only [StoreV.enc,DevV.enc,g2] at tl
  refine G2 g2 g4 ?_
  refine C0 (tl) ?_
  generalize s.relay=S at q ⊢
  cases gd:S.D.Down
  rotate_left
  ·have e2:S.end t r=(S,false):=by rw [StoreV.end,gd]; rfl
   try simp -implicitDefEqProofs (maxSteps:=1000000) only [go_sem,x_i_Add_1,gd,e2,take_all,take_marks,StoreV.enc]
   repeat refine ⟨sc,?_⟩
   try exact sf
   try rfl
  cases gp:(S.Place==30)
  rotate_left
  ·have e2:S.end t r=(S,false):=by rw [StoreV.end,gd,gp]; rfl
   try simp -implicitDefEqProofs (maxSteps:=1000000) only [go_sem,x_i_Add_1,gd,gp,e2,take_all,take_marks,StoreV.enc]
   repeat refine ⟨sc,?_⟩
   try exact sf
   try rfl
  have f2:=write_ok q.1 (secOf S.Gen S.Place) (putRec S.Gen S.Place r)
  have hp:=putRec_len S.Gen S.Place r
  have ew:IntKind.i64.wrap (S.Place + 1)=S.Place + 1:=IntWalk.i64_in _ (by omega)
  have t1:=c_i_WriteSec S.D (secOf S.Gen S.Place) (putRec S.Gen S.Place r) q.1 (by omega)
  simp only [DevV.enc,gd] at t1
  simp -implicitDefEqProofs (maxSteps:=1000000) only [x_i_Add_1,go_sem,gd,gp]
  repeat refine ⟨sc,?_⟩
  refine C0 (c_i_sectorOf _ _) ?_
  refine C0 (c_i_PutRec S.Gen S.Place r hr8) ?_
  refine C0 (t1) ?_
  refine C0 (c_i_FlushDev _ f2) ?_
  have el:((S.D.write (secOf S.Gen S.Place) (putRec S.Gen S.Place r)).flush)=S.log r:=rfl
  rw [el]
  cases g9:(S.log r).Down
  ·have e2:S.end t r=(⟨S.log r,t,S.Gen,S.Place + 1⟩,true):=by rw [StoreV.end,gd,gp,g9]; rfl
   try simp -implicitDefEqProofs (maxSteps:=1000000) only [go_sem,g9,ew,e2,take_all,take_marks,StoreV.enc]
   repeat refine ⟨sc,?_⟩
   try exact sf
   try rfl
  ·have e2:S.end t r=(⟨S.log r,S.T,S.Gen,S.Place⟩,false):=by rw [StoreV.end,gd,gp,g9]; rfl
   try simp -implicitDefEqProofs (maxSteps:=1000000) only [go_sem,g9,e2,take_all,take_marks,StoreV.enc]
   repeat refine ⟨sc,?_⟩
   try exact sf
   try rfl
def x_i_added:FnX:=⟨20,[.cell 4 (some 10),.tmp 5],
  .q [.v 2 0,.v 3 1,.op 4 (.alloc [.nils 1,.nils 2,.i 0,.F,.nils 7,.i 0,.nils 3,.i 0,.i 0,.i 0]),.F 5]
 (.q [.f 9 2 0,.L 10 9 9,.L 11 13 3,.c 12 174 [10,11],.m 8 12,.e 13 8 0,.e 14 8 1,.op 6 (.alloc [.nils 1,.nils 2,.i 0,.F,.nils 7,.i 0,.nils 3,.i 0,.i 0]),.s 100001 9 6 13,.m 7 14]
 (.q [.L 15 9 6,.f 16 2 9,.l 17 16,.op 18 (.build [.nils 1,.nils 2,.i 0,.F,.nils 7,.i 0,.nils 3,.i 0,.i 0,.i 0] [(0,9,(.t 15)),(9,1,(.t 17))]),.m 19 7,.s 100002 10 4 18,.m 5 19]
 .ret))⟩
theorem r_i_added {Te:TE} (c_i_Add:C_i_Add Te):C_i_added (RF Te x_i_added):=by
 intro n r hn hr
 refine X0 x_i_added.eq_1 ?_
 refine .of (c_i_Add n.S r hn hr) ?_
 try simp -implicitDefEqProofs (maxSteps:=1000000) only [go_sem,take_all,take_marks,StoreV.enc]
 repeat refine ⟨sc,?_⟩
 try exact sf
 try rfl
def x_i_RecOk:FnX:=⟨98,[.tmp 2],
  .q [.v 1 0,.F 2]
 (.seq (.draw [.f 6 1 1,.L 7 7 6,.op 8 (.build [.e,.i 0,.nils 1,.i 0,.nils 1,.i 0,.F] []),.c 9 85 [7,8],.f 10 1 8,.l 11 10,.op 12 (.bin .eql (.t 11) (.k (.one (.pv (.string ⟨#[]⟩))))),.m 3 9,.m 4 12] [[],[0],[],[1,2],[],[4],[5],[3,3,0,1,2,3],[6,7,0,1,2,3,4,5,6,7]])
 (.q [.F 5]
 (.seq (.q [.f 13 1 0,.l 14 13]
 (.block 0 (.q [.B 16 .eql 14 1,.m 15 16]
 (.cond 15 (.reg [.f 17 1 1,.L 18 7 17,.c 19 253 [18],.m 20 19,.y 20 (.m 21 4),.a 22 20 21,.m 23 22,.y 23 (.f 24 1 9),.y 23 (.l 25 24),.y 23 (.B 26 .eql 25 0),.a 27 23 26,.m 5 27]) (.q [.B 29 .eql 14 2,.m 28 29]
 (.cond 28 (.reg [.m 30 3,.m 31 30,.y 31 (.f 32 1 8),.y 31 (.l 33 32),.y 31 (.c 34 98 [33]),.a 35 31 34,.m 36 35,.y 36 (.f 37 1 9),.y 36 (.l 38 37),.y 36 (.B 39 .eql 38 0),.a 40 36 39,.m 5 40]) (.q [.B 42 .eql 14 3,.m 41 42]
 (.cond 41 (.reg [.m 43 3,.m 44 43,.y 44 (.m 45 4),.a 46 44 45,.m 47 46,.y 47 (.f 48 1 9),.y 47 (.l 49 48),.y 47 (.op 50 (.call 90 [0,0,0] [(.t 49),(.i 0),(.i 7)])),.a 51 47 50,.m 5 51]) (.q [.B 53 .eql 14 4,.m 52 53]
 (.c 52 (.reg [.m 54 3,.m 55 54,.y 55 (.m 56 4),.a 57 55 56,.m 58 57,.y 58 (.f 59 1 9),.y 58 (.l 60 59),.y 58 (.B 61 .eql 60 0),.a 62 58 61,.m 63 62,.y 63 (.f 64 1 10),.y 63 (.l 65 64),.y 63 (.B 66 .neq 65 0),.a 67 63 66,.m 5 67])))))))))))
 (.seq (.q [.f 68 1 10,.l 69 68,.B 70 .eql 69 0]
 (.c 70 (.q [.m 71 5,.m 72 71,.y 72 (.f 73 1 11),.y 72 (.l 74 73),.y 72 (.B 75 .eql 74 0),.a 76 72 75,.m 77 76,.y 77 (.f 78 1 12),.y 77 (.l 79 78),.y 77 (.B 80 .eql 79 0),.a 81 77 80,.m 2 81]
 .ret)))
 (.q [.m 82 5,.m 83 82,.y 83 (.f 84 1 10),.y 83 (.l 85 84),.y 83 (.op 86 (.call 90 [0,0,0] [(.t 85),(.i 1),(.i 9)])),.a 87 83 86,.m 88 87,.y 88 (.f 89 1 11),.y 88 (.l 90 89),.y 88 (.c 91 247 [90]),.a 92 88 91,.m 93 92,.y 93 (.f 94 1 12),.y 93 (.l 95 94),.y 93 (.op 96 (.call 90 [0,0,0] [(.t 95),(.i 0),(.i 6)])),.a 97 93 96,.m 2 97]
 .ret)))))⟩
theorem r_i_RecOk {Te:TE} (c_i_sameRow:C_i_sameRow Te) (c_i_RowOk:C_i_RowOk Te) (c_i_NameOk:C_i_NameOk Te) (c_i_within:C_i_within Te) (c_i_isWord:C_i_isWord Te):C_i_RecOk (RF Te x_i_RecOk):=by
 intro r h
 refine run0 ?_
 have hR:=h.1
 have hK:=h.2
 obtain ⟨kind,R,key,n,who,seq,code⟩:=r
 simp only at hR hK
 have ts:=c_i_sameRow R RowV.zero
 rw [rowSame_zero] at ts
 simp -implicitDefEqProofs (maxSteps:=1000000) only [x_i_RecOk,go_sem,bytes_beq]
 repeat refine ⟨sc,?_⟩
 try exact sf
 refine .of (ts) ?_
 try simp -implicitDefEqProofs (maxSteps:=1000000) only [go_sem,bytes_beq]
 repeat refine ⟨sc,?_⟩
 try exact sf
 by_cases q1:kind=1
 ·subst q1
  refine G0 ?_
  refine C0 (c_i_RowOk R hR) ?_
  cases g1:R.ok
  ·refine G1 g1 ?_
   cases g0:(who==0)
   ·try simp -implicitDefEqProofs (maxSteps:=1000000) only [go_sem,g0,RecV.ok,RecV.body,RecV.who,g1]
    repeat refine ⟨sc,?_⟩
    try exact sf
   ·try simp -implicitDefEqProofs (maxSteps:=1000000) only [go_sem,g0,RecV.ok,RecV.body,RecV.who,g1]
    repeat refine ⟨sc,?_⟩
    try exact sf
  refine G1 g1 ?_
  cases g2:decide (key=⟨#[]⟩)
  ·refine G2 g1 g2 ?_
   cases g0:(who==0)
   ·try simp -implicitDefEqProofs (maxSteps:=1000000) only [go_sem,g0,RecV.ok,RecV.body,RecV.who,g1,g2]
    repeat refine ⟨sc,?_⟩
    try exact sf
   ·try simp -implicitDefEqProofs (maxSteps:=1000000) only [go_sem,g0,RecV.ok,RecV.body,RecV.who,g1,g2]
    repeat refine ⟨sc,?_⟩
    try exact sf
  refine G1 g2 ?_
  cases g3:(n==0)
  ·refine G3 g1 g2 g3 ?_
   cases g0:(who==0)
   ·try simp -implicitDefEqProofs (maxSteps:=1000000) only [go_sem,g0,RecV.ok,RecV.body,RecV.who,g1,g2,g3]
    repeat refine ⟨sc,?_⟩
    try exact sf
   ·try simp -implicitDefEqProofs (maxSteps:=1000000) only [go_sem,g0,RecV.ok,RecV.body,RecV.who,g1,g2,g3]
    repeat refine ⟨sc,?_⟩
    try exact sf
  refine G1 g3 ?_
  cases g0:(who==0)
  ·refine G1 g0 ?_
   refine C0 (c_i_within _ _ _) ?_
   cases h1:win who 1 9
   ·try simp -implicitDefEqProofs (maxSteps:=1000000) only [go_sem,g0,h1,RecV.ok,RecV.body,RecV.who,g1,g2,g3]
    repeat refine ⟨sc,?_⟩
    try exact sf
   refine G0 ?_
   refine C0 (c_i_isWord _) ?_
   cases h2:win seq 0 65535
   ·try simp -implicitDefEqProofs (maxSteps:=1000000) only [go_sem,g0,h1,h2,RecV.ok,RecV.body,RecV.who,g1,g2,g3]
    repeat refine ⟨sc,?_⟩
    try exact sf
    try rfl
   refine G0 ?_
   refine .of (c_i_within _ _ _) ?_
   try simp -implicitDefEqProofs (maxSteps:=1000000) only [go_sem,g0,h1,h2,RecV.ok,RecV.body,RecV.who,g1,g2,g3]
   repeat refine ⟨sc,?_⟩
   try exact sf
  ·refine G1 g0 ?_
   cases h1:(seq==0)
   ·try simp -implicitDefEqProofs (maxSteps:=1000000) only [go_sem,g0,h1,RecV.ok,RecV.body,RecV.who,g1,g2,g3]
    repeat refine ⟨sc,?_⟩
    try exact sf
   refine G1 h1 ?_
   cases h2:(code==0)
   ·try simp -implicitDefEqProofs (maxSteps:=1000000) only [go_sem,g0,h1,h2,RecV.ok,RecV.body,RecV.who,g1,g2,g3]
    repeat refine ⟨sc,?_⟩
    try exact sf
    try rfl
   try simp -implicitDefEqProofs (maxSteps:=1000000) only [go_sem,g0,h1,h2,RecV.ok,RecV.body,RecV.who,g1,g2,g3]
   repeat refine ⟨sc,?_⟩
   try exact sf
   try rfl
 by_cases q2:kind=2
 ·subst q2
  refine G0 ?_
  cases g1:R.no
  ·refine G1 g1 ?_
   cases g0:(who==0)
   ·try simp -implicitDefEqProofs (maxSteps:=1000000) only [go_sem,g0,RecV.ok,RecV.body,RecV.who,g1]
    repeat refine ⟨sc,?_⟩
    try exact sf
   ·try simp -implicitDefEqProofs (maxSteps:=1000000) only [go_sem,g0,RecV.ok,RecV.body,RecV.who,g1]
    repeat refine ⟨sc,?_⟩
    try exact sf
  refine G1 g1 ?_
  refine C0 (c_i_NameOk key hK) ?_
  cases g2:nameOk key
  ·refine G2 g1 g2 ?_
   cases g0:(who==0)
   ·try simp -implicitDefEqProofs (maxSteps:=1000000) only [go_sem,g0,RecV.ok,RecV.body,RecV.who,g1,g2]
    repeat refine ⟨sc,?_⟩
    try exact sf
   ·try simp -implicitDefEqProofs (maxSteps:=1000000) only [go_sem,g0,RecV.ok,RecV.body,RecV.who,g1,g2]
    repeat refine ⟨sc,?_⟩
    try exact sf
  refine G1 g2 ?_
  cases g3:(n==0)
  ·refine G3 g1 g2 g3 ?_
   cases g0:(who==0)
   ·try simp -implicitDefEqProofs (maxSteps:=1000000) only [go_sem,g0,RecV.ok,RecV.body,RecV.who,g1,g2,g3]
    repeat refine ⟨sc,?_⟩
    try exact sf
   ·try simp -implicitDefEqProofs (maxSteps:=1000000) only [go_sem,g0,RecV.ok,RecV.body,RecV.who,g1,g2,g3]
    repeat refine ⟨sc,?_⟩
    try exact sf
  refine G1 g3 ?_
  cases g0:(who==0)
  ·refine G1 g0 ?_
   refine C0 (c_i_within _ _ _) ?_
   cases h1:win who 1 9
   ·try simp -implicitDefEqProofs (maxSteps:=1000000) only [go_sem,g0,h1,RecV.ok,RecV.body,RecV.who,g1,g2,g3]
    repeat refine ⟨sc,?_⟩
    try exact sf
   refine G0 ?_
   refine C0 (c_i_isWord _) ?_
   cases h2:win seq 0 65535
   ·try simp -implicitDefEqProofs (maxSteps:=1000000) only [go_sem,g0,h1,h2,RecV.ok,RecV.body,RecV.who,g1,g2,g3]
    repeat refine ⟨sc,?_⟩
    try exact sf
    try rfl
   refine G0 ?_
   refine .of (c_i_within _ _ _) ?_
   try simp -implicitDefEqProofs (maxSteps:=1000000) only [go_sem,g0,h1,h2,RecV.ok,RecV.body,RecV.who,g1,g2,g3]
   repeat refine ⟨sc,?_⟩
   try exact sf
  ·refine G1 g0 ?_
   cases h1:(seq==0)
   ·try simp -implicitDefEqProofs (maxSteps:=1000000) only [go_sem,g0,h1,RecV.ok,RecV.body,RecV.who,g1,g2,g3]
    repeat refine ⟨sc,?_⟩
    try exact sf
   refine G1 h1 ?_
   cases h2:(code==0)
   ·try simp -implicitDefEqProofs (maxSteps:=1000000) only [go_sem,g0,h1,h2,RecV.ok,RecV.body,RecV.who,g1,g2,g3]
    repeat refine ⟨sc,?_⟩
    try exact sf
    try rfl
   try simp -implicitDefEqProofs (maxSteps:=1000000) only [go_sem,g0,h1,h2,RecV.ok,RecV.body,RecV.who,g1,g2,g3]
   repeat refine ⟨sc,?_⟩
   try exact sf
   try rfl
 by_cases q3:kind=3
 ·subst q3
  refine G0 ?_
  cases g1:R.no
  ·refine G1 g1 ?_
   cases g0:(who==0)
   ·try simp -implicitDefEqProofs (maxSteps:=1000000) only [go_sem,g0,RecV.ok,RecV.body,RecV.who,g1]
    repeat refine ⟨sc,?_⟩
    try exact sf
   ·try simp -implicitDefEqProofs (maxSteps:=1000000) only [go_sem,g0,RecV.ok,RecV.body,RecV.who,g1]
    repeat refine ⟨sc,?_⟩
    try exact sf
  refine G1 g1 ?_
  cases g2:decide (key=⟨#[]⟩)
  ·refine G2 g1 g2 ?_
   cases g0:(who==0)
   ·try simp -implicitDefEqProofs (maxSteps:=1000000) only [go_sem,g0,RecV.ok,RecV.body,RecV.who,g1,g2]
    repeat refine ⟨sc,?_⟩
    try exact sf
   ·try simp -implicitDefEqProofs (maxSteps:=1000000) only [go_sem,g0,RecV.ok,RecV.body,RecV.who,g1,g2]
    repeat refine ⟨sc,?_⟩
    try exact sf
  refine G1 g2 ?_
  refine C0 (c_i_within _ _ _) ?_
  cases g3:win n 0 7
  ·refine G3 g1 g2 g3 ?_
   cases g0:(who==0)
   ·try simp -implicitDefEqProofs (maxSteps:=1000000) only [go_sem,g0,RecV.ok,RecV.body,RecV.who,g1,g2,g3]
    repeat refine ⟨sc,?_⟩
    try exact sf
   ·try simp -implicitDefEqProofs (maxSteps:=1000000) only [go_sem,g0,RecV.ok,RecV.body,RecV.who,g1,g2,g3]
    repeat refine ⟨sc,?_⟩
    try exact sf
  refine G1 g3 ?_
  cases g0:(who==0)
  ·refine G1 g0 ?_
   refine C0 (c_i_within _ _ _) ?_
   cases h1:win who 1 9
   ·try simp -implicitDefEqProofs (maxSteps:=1000000) only [go_sem,g0,h1,RecV.ok,RecV.body,RecV.who,g1,g2,g3]
    repeat refine ⟨sc,?_⟩
    try exact sf
   refine G0 ?_
   refine C0 (c_i_isWord _) ?_
   cases h2:win seq 0 65535
   ·try simp -implicitDefEqProofs (maxSteps:=1000000) only [go_sem,g0,h1,h2,RecV.ok,RecV.body,RecV.who,g1,g2,g3]
    repeat refine ⟨sc,?_⟩
    try exact sf
    try rfl
   refine G0 ?_
   refine .of (c_i_within _ _ _) ?_
   try simp -implicitDefEqProofs (maxSteps:=1000000) only [go_sem,g0,h1,h2,RecV.ok,RecV.body,RecV.who,g1,g2,g3]
   repeat refine ⟨sc,?_⟩
   try exact sf
  ·refine G1 g0 ?_
   cases h1:(seq==0)
   ·try simp -implicitDefEqProofs (maxSteps:=1000000) only [go_sem,g0,h1,RecV.ok,RecV.body,RecV.who,g1,g2,g3]
    repeat refine ⟨sc,?_⟩
    try exact sf
   refine G1 h1 ?_
   cases h2:(code==0)
   ·try simp -implicitDefEqProofs (maxSteps:=1000000) only [go_sem,g0,h1,h2,RecV.ok,RecV.body,RecV.who,g1,g2,g3]
    repeat refine ⟨sc,?_⟩
    try exact sf
    try rfl
   try simp -implicitDefEqProofs (maxSteps:=1000000) only [go_sem,g0,h1,h2,RecV.ok,RecV.body,RecV.who,g1,g2,g3]
   repeat refine ⟨sc,?_⟩
   try exact sf
   try rfl
 by_cases q4:kind=4
 ·subst q4
  refine G0 ?_
  cases g1:R.no
  ·refine G1 g1 ?_
   cases g0:(who==0)
   ·try simp -implicitDefEqProofs (maxSteps:=1000000) only [go_sem,g0,RecV.ok,RecV.body,RecV.who,g1]
    repeat refine ⟨sc,?_⟩
    try exact sf
   ·try simp -implicitDefEqProofs (maxSteps:=1000000) only [go_sem,g0,RecV.ok,RecV.body,RecV.who,g1]
    repeat refine ⟨sc,?_⟩
    try exact sf
  refine G1 g1 ?_
  cases g2:decide (key=⟨#[]⟩)
  ·refine G2 g1 g2 ?_
   cases g0:(who==0)
   ·try simp -implicitDefEqProofs (maxSteps:=1000000) only [go_sem,g0,RecV.ok,RecV.body,RecV.who,g1,g2]
    repeat refine ⟨sc,?_⟩
    try exact sf
   ·try simp -implicitDefEqProofs (maxSteps:=1000000) only [go_sem,g0,RecV.ok,RecV.body,RecV.who,g1,g2]
    repeat refine ⟨sc,?_⟩
    try exact sf
  refine G1 g2 ?_
  cases g3:(n==0)
  ·refine G3 g1 g2 g3 ?_
   cases g0:(who==0)
   ·try simp -implicitDefEqProofs (maxSteps:=1000000) only [go_sem,g0,RecV.ok,RecV.body,RecV.who,g1,g2,g3]
    repeat refine ⟨sc,?_⟩
    try exact sf
   ·try simp -implicitDefEqProofs (maxSteps:=1000000) only [go_sem,g0,RecV.ok,RecV.body,RecV.who,g1,g2,g3]
    repeat refine ⟨sc,?_⟩
    try exact sf
  refine G1 g3 ?_
  cases g0:(who==0)
  ·have g9:(who != 0)=true:=by rw [bne,g0]; rfl
   refine G2 g0 g9 ?_
   refine C0 (c_i_within _ _ _) ?_
   cases h1:win who 1 9
   ·try simp -implicitDefEqProofs (maxSteps:=1000000) only [go_sem,g0,h1,RecV.ok,RecV.body,RecV.who,g1,g2,g3]
    repeat refine ⟨sc,?_⟩
    try exact sf
   refine G0 ?_
   refine C0 (c_i_isWord _) ?_
   cases h2:win seq 0 65535
   ·try simp -implicitDefEqProofs (maxSteps:=1000000) only [go_sem,g0,h1,h2,RecV.ok,RecV.body,RecV.who,g1,g2,g3]
    repeat refine ⟨sc,?_⟩
    try exact sf
    try rfl
   refine G0 ?_
   refine .of (c_i_within _ _ _) ?_
   try simp -implicitDefEqProofs (maxSteps:=1000000) only [go_sem,g0,h1,h2,RecV.ok,RecV.body,RecV.who,g1,g2,g3]
   repeat refine ⟨sc,?_⟩
   try exact sf
  ·have g9:(who != 0)=false:=by rw [bne,g0]; rfl
   refine G2 g0 g9 ?_
   cases h1:(seq==0)
   ·try simp -implicitDefEqProofs (maxSteps:=1000000) only [go_sem,g0,h1,RecV.ok,RecV.body,RecV.who,g1,g2,g3]
    repeat refine ⟨sc,?_⟩
    try exact sf
   cases h2:(code==0)
   ·try simp -implicitDefEqProofs (maxSteps:=1000000) only [go_sem,g0,h1,h2,RecV.ok,RecV.body,RecV.who,g1,g2,g3]
    repeat refine ⟨sc,?_⟩
    try exact sf
    try rfl
   try simp -implicitDefEqProofs (maxSteps:=1000000) only [go_sem,g0,h1,h2,RecV.ok,RecV.body,RecV.who,g1,g2,g3]
   repeat refine ⟨sc,?_⟩
   try exact sf
   try rfl
 obtain ⟨k1,k2,k3,k4⟩:=other_kind q1 q2 q3 q4
 refine G4 k1 k2 k3 k4 ?_
 cases g0:(who==0)
 ·try simp -implicitDefEqProofs (maxSteps:=1000000) only [go_sem,g0,RecV.ok,RecV.body,RecV.who,k1,k2,k3,k4]
  repeat refine ⟨sc,?_⟩
  try exact sf
 ·try simp -implicitDefEqProofs (maxSteps:=1000000) only [go_sem,g0,RecV.ok,RecV.body,RecV.who,k1,k2,k3,k4]
  repeat refine ⟨sc,?_⟩
  try exact sf
def x_l_sameTab:FnX:=⟨67,[.tmp 4],
  .q [.v 2 0,.v 3 1,.F 4]
 (.seq (.q [.f 7 2 0,.l 8 7,.n 9 8,.f 10 3 0,.l 11 10,.n 12 11,.b 13 .neq 9 12,.m 14 13,.z 14 (.f 15 2 1),.z 14 (.l 16 15),.z 14 (.f 17 3 1),.z 14 (.l 18 17),.z 14 (.b 19 .neq 16 18),.r 20 14 19,.m 21 20,.z 21 (.f 22 2 2),.z 21 (.l 23 22),.z 21 (.n 24 23),.z 21 (.f 25 3 2),.z 21 (.l 26 25),.z 21 (.n 27 26),.z 21 (.b 28 .neq 24 27),.r 29 21 28]
 (.c 29 (.q [.F 4]
 .ret)))
 (.seq (.q [.i 5 0]
 (.block 0 (.loop [2,3,5] (.seq (.q [.m 30 5,.f 31 2 0,.l 32 31,.n 33 32,.b 34 .lss 30 33]
 (.cond 34 .skip (.exit 0)))
 (.seq (.block 1 (.seq (.draw [.f 37 2 0,.l 38 37,.m 39 5,.x 40 7 38 39,.L 41 7 40,.f 42 3 0,.l 43 42,.m 44 5,.x 45 7 43 44,.L 46 7 45,.c 47 250 [41,46],.N 48 47] [[],[0],[],[1,2],[3],[],[5],[],[6,7],[8],[4,9],[10]])
 (.c 48 (.q [.F 4]
 .ret))))
 (.reg [.m 35 5,.B 36 .add 35 1,.m 5 36]))))))
 (.norm [2,3] (.seq (.q [.i 6 0]
 (.block 2 (.loop [2,3,6] (.seq (.q [.m 49 6,.f 50 2 2,.l 51 50,.n 52 51,.b 53 .lss 49 52]
 (.cond 53 .skip (.exit 2)))
 (.seq (.block 3 (.seq (.draw [.f 56 2 2,.l 57 56,.m 58 6,.x 59 3 57 58,.L 60 3 59,.f 61 3 2,.l 62 61,.m 63 6,.x 64 3 62 63,.L 65 3 64,.op 66 (.eqs true [0,0,0] (.t 60) (.t 65))] [[],[0],[],[1,2],[3],[],[5],[],[6,7],[8],[4,9]])
 (.c 66 (.q [.F 4]
 .ret))))
 (.reg [.m 54 6,.B 55 .add 54 1,.m 6 55]))))))
 (.norm [] (.q [.T 4]
 .ret))))))⟩
theorem r_l_sameTab {Te:TE} (c_l_sameRow:C_l_sameRow Te):C_l_sameTab (RF Te x_l_sameTab):=by
 intro t h
 obtain ⟨⟨hS,_⟩,hC⟩:=h
 have nI:∀ z:Int,(z != z)=false:=fun z=>bne_self_eq_false z
 have eI:∀ z:Int,(z==z)=true:=fun z=>beq_self_eq_true z
 refine X1 x_l_sameTab.eq_1 nI ?_
 refine loop_of (σ:=Nat) (fun i=>⟨[(2,.bp 2 0),(3,.bp 3 0),(5,.one (.pv (.int .i64 i)))],[(2,[.ro 7 (t.Rows.map (RowV.enc false)),.pv (.int .i64 t.Phase),.ro 3 (t.Marks.map MarkV.row)]),(3,[.ro 7 (t.Rows.map (RowV.enc false)),.pv (.int .i64 t.Phase),.ro 3 (t.Marks.map MarkV.row)])],[(0,t.enc false),(1,t.enc false)]⟩) (fun i=>i≤t.Rows.length) (fun i=>t.Rows.length - i) 0 ?_ (Nat.zero_le _) ?_
 ·simp -implicitDefEqProofs (maxSteps:=1000000) only [go_sem]
  try rfl
 ·rintro i hi
  cases q:decide ((i:Int) < (t.Rows.length:Int))
  ·refine G1 q ?_
   refine loop_of (σ:=Nat) (fun i=>⟨[(2,.bp 2 0),(3,.bp 3 0),(6,.one (.pv (.int .i64 i)))],[(2,[.ro 7 (t.Rows.map (RowV.enc false)),.pv (.int .i64 t.Phase),.ro 3 (t.Marks.map MarkV.row)]),(3,[.ro 7 (t.Rows.map (RowV.enc false)),.pv (.int .i64 t.Phase),.ro 3 (t.Marks.map MarkV.row)])],[(0,t.enc false),(1,t.enc false)]⟩) (fun i=>i≤t.Marks.length) (fun i=>t.Marks.length - i) 0 ?_ (Nat.zero_le _) ?_
   ·simp -implicitDefEqProofs (maxSteps:=1000000) only [go_sem]
    try rfl
   ·rintro i hi
    cases q:decide ((i:Int) < (t.Marks.length:Int))
    ·exact F1 q
    ·have k1:i < t.Marks.length:=by simp only [decide_eq_true_eq] at q; omega
     have k2:=List.getElem?_eq_getElem k1
     have xB:(true != true)=false:=rfl
     try simp -implicitDefEqProofs (maxSteps:=1000000) only [go_sem,q,k2,mark_eqs,xB]
     repeat refine ⟨sc,?_⟩
     try exact sf
     exact ⟨i + 1,by rw [IntWalk.i64_in _ (by omega)]; rfl,k1,by omega⟩
  ·have k1:i < t.Rows.length:=by simp only [decide_eq_true_eq] at q; omega
   have k2:=List.getElem?_eq_getElem k1
   refine G2 q k2 ?_
   refine C0 (c_l_sameRow t.Rows[i]) ?_
   exact ⟨i + 1,by rw [IntWalk.i64_in _ (by omega)]; rfl,k1,by omega⟩
def x_l_sameStore:FnX:=⟨31,[.tmp 4],
  .q [.v 2 0,.v 3 1,.F 4]
 (.q [.f 5 2 0,.L 6 4 5,.f 7 3 0,.L 8 4 7,.c 9 165 [6,8],.m 10 9,.y 10 (.f 11 2 4),.y 10 (.L 12 3 11),.y 10 (.f 13 3 4),.y 10 (.L 14 3 13),.y 10 (.c 15 166 [12,14]),.a 16 10 15,.m 17 16,.y 17 (.f 18 2 7),.y 17 (.l 19 18),.y 17 (.f 20 3 7),.y 17 (.l 21 20),.y 17 (.b 22 .eql 19 21),.a 23 17 22,.m 24 23,.y 24 (.f 25 2 8),.y 24 (.l 26 25),.y 24 (.f 27 3 8),.y 24 (.l 28 27),.y 24 (.b 29 .eql 26 28),.a 30 24 29,.m 4 30]
 .ret)⟩
theorem r_l_sameStore {Te:TE} (c_l_sameDev:C_l_sameDev Te) (c_l_sameTab:C_l_sameTab Te):C_l_sameStore (RF Te x_l_sameStore):=by
 intro s h
 have eI:∀ z:Int,(z==z)=true:=fun z=>beq_self_eq_true z
 refine X0 x_l_sameStore.eq_1 ?_
 refine C0 (c_l_sameDev s.D h.1) ?_
 exact D1 (c_l_sameTab s.T h.2) eI
def x_l_sameNode:FnX:=⟨17,[.tmp 4],
  .q [.v 2 0,.v 3 1,.F 4]
 (.q [.f 5 2 0,.L 6 9 5,.f 7 3 0,.L 8 9 7,.c 9 71 [6,8],.m 10 9,.y 10 (.f 11 2 9),.y 10 (.l 12 11),.y 10 (.f 13 3 9),.y 10 (.l 14 13),.y 10 (.b 15 .eql 12 14),.a 16 10 15,.m 4 16]
 .ret)⟩
theorem r_l_sameNode {Te:TE} (c_l_sameStore:C_l_sameStore Te):C_l_sameNode (RF Te x_l_sameNode):=by
 intro n h
 have eI:∀ z:Int,(z==z)=true:=fun z=>beq_self_eq_true z
 refine X0 x_l_sameNode.eq_1 ?_
 exact D1 (c_l_sameStore n.S h) eI
def x_s_l10Draw:FnX:=⟨29,[.cell 2 (some 4)],
  .q [.op 2 (.alloc [.nils 1,.nils 2,.i 0,.F])]
 (.q [.m 5 0,.op 6 (.call 96 [5,0] [(.t 5),(.i 6)]),.op 7 (.bin .add (.i 2) (.t 6)),.c 8 210 [7],.op 3 (.alloc [.nils 1,.nils 2,.i 0,.F]),.s 100001 4 3 8]
 (.seq (.q [.m 9 0,.op 10 (.call 96 [5,0] [(.t 9),(.i 8)]),.m 4 10]
 (.block 0 (.loop [0,2,3,4] (.seq (.q [.m 11 4,.B 12 .gtr 11 0]
 (.cond 12 .skip (.exit 0)))
 (.seq (.block 1 (.q [.m 15 0,.op 16 (.call 94 [5,0] [(.t 15),(.i 4)])]
 (.cond 16 (.reg [.op 17 (.call 195 [6] [(.t 3)])]) (.reg [.m 18 0,.f 19 3 0,.l 20 19,.n 21 20,.op 22 (.call 96 [5,0] [(.t 18),(.t 21)]),.m 23 0,.m 24 0,.op 25 (.call 96 [5,0] [(.t 24),(.i 4)]),.op 26 (.call 318 [5,0] [(.t 23),(.t 25)]),.op 27 (.call 192 [6,0,0] [(.t 3),(.t 22),(.t 26)])]))))
 (.reg [.m 13 4,.B 14 .sub 13 1,.m 4 14]))))))
 (.norm [2,3] (.q [.L 28 4 3,.s 100002 4 2 28]
 .ret))))⟩
theorem r_s_l10Draw {Te:TE} (c_s_l1Below:C_s_l1Below Te) (c_s_DevNew:C_s_DevNew Te) (c_s_l1Once:C_s_l1Once Te) (c_s_l10Flush:C_s_l10Flush Te) (c_s_l1Bytes:C_s_l1Bytes Te) (c_s_l10Write:C_s_l10Write Te):∀ (c:CurV) (hc:c.ok),∃ r0,(∃ (x:DevV) (d:CurV),(x.ok=true∧d.ok)∧r0=(⟨[.agg (x.enc true)],[d.enc]⟩:Res))∧RunFn Te x_s_l10Draw [.ptr c.enc] r0:=by
 intro c hc
 refine some_of (Nat.le_of_ble_eq_true rfl) (by rfl) ?_
 simp -implicitDefEqProofs (maxSteps:=1000000) only [x_s_l10Draw,go_sem]
 repeat refine ⟨sc,?_⟩
 try exact sf
 obtain ⟨u,d0,⟨⟨hu0,hu1,_⟩,hd0⟩,ht⟩:=c_s_l1Below c 6 hc
 have hu6:=hu1 (by decide)
 have wu:IntKind.i64.wrap (2 + u)=2 + u:=IntWalk.i64_in _ (by omega)
 have hk:=devNew_small hu0 hu6
 refine C1 (ht) wu ?_
 refine C0 (c_s_DevNew (2 + u)) ?_
 obtain ⟨k,d1,⟨⟨hk0,hk1,_⟩,hd1⟩,ht⟩:=c_s_l1Below d0 8 hd0
 have hk2:=hk1 (by decide)
 obtain ⟨K,rfl⟩:∃ K:Nat,k=K:=⟨k.toNat,by omega⟩
 generalize devNew (2 + u)=x0 at hk
 refine C0 (ht) ?_
 refine loop_of (σ:=Nat×DevV×CurV) (fun x=>⟨[(0,.bp 0 0),(2,.bp 2 0),(3,.bp 3 0),(4,.one (.pv (.int .i64 x.1)))],[(0,[.ro 1 (x.2.2.b.map uR),.pv (.int .i64 x.2.2.i),.pv (.int .i64 x.2.2.h)]),(2,[.nils 1,.nils 2,.pv (.int .i64 0),.pv (.bool false)]),(3,[.rf 30 0 [] 1 0 x.2.1.Secs.length,.rf 30 1 [] 2 0 x.2.1.Cache.length,.pv (.int .i64 x.2.1.Fuse),.pv (.bool x.2.1.Down)])],[(0,c.enc),(30,x.2.1.enc true)]⟩) (fun x=>x.1≤K∧x.2.1.ok=true∧x.2.2.ok) (fun x=>x.1) (K,x0,d1) ?_ ⟨Nat.le_refl _,hk,hd1⟩ ?_
 ·simp -implicitDefEqProofs (maxSteps:=1000000) only [go_sem]
  try rfl
 ·rintro ⟨i,x,d⟩ ⟨hi,hx,hd⟩
  simp only at hi hx hd
  cases q:decide ((i:Int) > 0)
  ·refine G1 q ?_
   exact ⟨x,d,⟨hx,hd⟩,rfl⟩
  ·have q':=q
   simp only [decide_eq_true_eq] at q'
   have w2:IntKind.i64.wrap ((i:Int) - 1)=((i - 1:Nat):Int):=by rw [IntWalk.i64_in _ (by omega)]; omega
   obtain ⟨p,d,hd,ht⟩:=c_s_l1Once d 4 hd
   have hC:=DevV.ok_cache hx
   have hI:=(DevV.ok_in hx).1.1
   have hi2:=DevV.ok_idx hx
   refine G1 q ?_
   cases p
   ·obtain ⟨u,d,⟨_,hd⟩,ht1⟩:=c_s_l1Below d (x.Secs.length:Int) hd
    obtain ⟨v,d,⟨⟨hv0,hv1,_⟩,hd⟩,ht2⟩:=c_s_l1Below d 4 hd
    have hv4:=hv1 (by decide)
    obtain ⟨b,d,⟨hb,hd⟩,ht3⟩:=c_s_l1Bytes d v hd (by omega)
    refine C0 (ht) ?_
    refine C0 (ht1) ?_
    refine C0 (ht2) ?_
    refine C0 (ht3) ?_
    refine C1 (c_s_l10Write x u b ⟨by omega,by omega⟩ (by omega)) w2 ?_
    exact ⟨(i - 1,x.write u b,d),rfl,⟨by simp only; omega,write_ok hx u b,hd⟩,by simp only; omega⟩
   ·refine C0 (ht) ?_
    refine C1 (c_s_l10Flush x (by omega) hi2) w2 ?_
    exact ⟨(i - 1,x.flush,d),rfl,⟨by simp only; omega,flush_ok hx,hd⟩,by simp only; omega⟩
def x_l_big:FnX:=⟨6,[.tmp 2],
  .q [.F 2]
 (.q [.m 3 0,.n 4 3,.B 5 .gtr 4 1048576,.m 2 5]
 .ret)⟩
theorem r_l_big {Te:TE}:C_l_big (RF Te x_l_big):=by
 intro l
 refine run0 ?_
 simp -implicitDefEqProofs (maxSteps:=1000000) only [x_l_big,go_sem]
 repeat refine ⟨sc,?_⟩
 try exact sf
def x_s_l1New:FnP:=⟨32,2,
  .q [.op 2 (.mv (.k (.one (.pv (.pointer none)))))]
 (.q [.m 5 0,.n 6 5,.op 7 (.bin .add (.i 953953) (.t 6)),.m 3 7]
 (.seq (.q [.i 4 0]
 (.block 0 (.loop [0,3,4] (.seq (.q [.m 8 4,.m 9 0,.n 10 9,.b 11 .lss 8 10,.m 12 11,.y 12 (.m 13 4),.y 12 (.B 14 .lss 13 4000),.a 15 12 14]
 (.cond 15 .skip (.exit 0)))
 (.seq (.block 1 (.reg [.m 18 3,.B 19 .mul 18 137,.m 20 0,.m 21 4,.x 22 1 20 21,.l 23 22,.op 24 (.conv (.int .i64) (.t 23)),.b 25 .add 19 24,.B 26 .add 25 11,.B 27 .and 26 1073741823,.m 3 27]))
 (.reg [.m 16 4,.B 17 .add 16 1,.m 4 17]))))))
 (.norm [0,3] (.q [.m 28 0,.m 29 3,.op 30 (.build [.nils 1,.i 0,.i 0] [(0,1,(.t 28)),(2,1,(.t 29))]),.v 31 30,.m 2 31]
 .ret))))⟩
theorem r_s_l1New {Te:TE}:∀ (l:List UInt8) (hl:l.length≤2 ^ 31),∃ r0,(∃ (c:CurV),(c.ok)∧r0=(⟨[.ptr c.enc],[[slT false 1 uR l]]⟩:Res))∧RunFnP Te x_s_l1New [.one (slT false 1 uR l)] (fun r=>r=r0):=by
 intro l hl
 refine some_ofP (by rfl) ⟨by simp -implicitDefEqProofs (maxSteps:=1000000) only [x_s_l1New,go_sem],?_⟩
 simp -implicitDefEqProofs (maxSteps:=1000000) only [x_s_l1New,go_sem]
 repeat refine ⟨sc,?_⟩
 try exact sf
 refine loop_of (σ:=Nat×Int) (fun x=>⟨[(0,.one (.ro 1 (l.map uR))),(3,.one (.pv (.int .i64 x.2))),(4,.one (.pv (.int .i64 x.1)))],[],[(0,[slT false 1 uR l])]⟩) (fun x=>x.1≤l.length) (fun x=>l.length - x.1) (0,IntKind.i64.wrap (953953 + (l.length:Int))) ?_ (Nat.zero_le _) ?_
 ·simp -implicitDefEqProofs (maxSteps:=1000000) only [go_sem]; rfl
 ·rintro ⟨i,h⟩ hi
  simp only at hi
  cases q:decide ((i:Int) < (l.length:Int))
  ·refine G1 q ?_
   exact ⟨⟨l,0,h⟩,⟨Int.le_refl _,by simp,hl⟩,rfl⟩
  ·have hi':i < l.length:=by simp only [decide_eq_true_eq] at q; omega
   refine G1 q ?_
   refine ⟨fun q2=>?_,fun q2=>?_⟩
   ·try simp -implicitDefEqProofs (maxSteps:=1000000) only [go_sem,List.getElem?_eq_getElem hi']
    repeat refine ⟨sc,?_⟩
    try exact sf
    exact ⟨(i + 1,_),by rw [IntWalk.i64_in ((i:Int) + 1) (by omega)]; rfl,hi',by simp only; omega⟩
   ·refine G0 ?_
    exact ⟨⟨l,0,h⟩,⟨Int.le_refl _,by simp,hl⟩,rfl⟩
def x_s_l1Byte:FnX:=⟨58,[.tmp 2],
  .q [.i 2 0]
 (.q [.m 4 0,.m 5 0,.op 6 (.nilc (.t 5)),.f 7 6 2,.l 8 7,.B 9 .mul 8 6364136223846793005,.B 10 .add 9 1442695040888963407,.op 11 (.nilc (.t 4)),.f 12 11 2,.s 100001 1 12 10]
 (.seq (.draw [.m 13 0,.op 14 (.nilc (.t 13)),.f 15 14 2,.l 16 15,.op 17 (.bin .shr (.t 16) (.k (.one (.pv (.int .u64 33))))),.m 18 0,.op 19 (.nilc (.t 18)),.f 20 19 2,.l 21 20,.op 22 (.bin .shr (.t 21) (.k (.one (.pv (.int .u64 47))))),.b 23 .xor 17 22,.B 24 .and 23 255,.m 3 24] [[],[0],[1],[2],[3],[],[5],[6],[7],[8],[4,9],[10],[11,0,1,2,3,4,5,6,7,8,9,10,11]])
 (.seq (.seq (.draw [.m 25 0,.op 26 (.nilc (.t 25)),.f 27 26 1,.l 28 27,.m 29 0,.op 30 (.nilc (.t 29)),.f 31 30 0,.l 32 31,.n 33 32,.b 34 .lss 28 33] [[],[0],[1],[2],[],[4],[5],[6],[7],[3,8]])
 (.c 34 (.seq (.draw [.m 35 3,.m 36 0,.op 37 (.nilc (.t 36)),.f 38 37 0,.l 39 38,.m 40 0,.op 41 (.nilc (.t 40)),.f 42 41 1,.l 43 42,.x 44 1 39 43,.l 45 44,.op 46 (.conv (.int .i64) (.t 45)),.b 47 .add 35 46,.B 48 .and 47 255,.m 3 48] [[],[],[1],[2],[3],[],[5],[6],[7],[4,8],[9],[10],[0,11],[12],[13,0,1,2,3,4,5,6,7,8,9,10,11,12,13]])
 (.reg [.m 49 0,.m 50 0,.op 51 (.nilc (.t 50)),.f 52 51 1,.l 53 52,.B 54 .add 53 1,.op 55 (.nilc (.t 49)),.f 56 55 1,.s 100002 1 56 54]))))
 (.q [.m 57 3,.m 2 57]
 .ret))))⟩
theorem r_s_l1Byte {Te:TE}:∀ (c:CurV) (hc:c.ok),∃ r0,(∃ (r:Int) (d:CurV),((0≤r∧r≤255)∧d.ok)∧r0=(⟨[.one (iT r)],[d.enc]⟩:Res))∧RunFn Te x_s_l1Byte [.ptr c.enc] r0:=by
 intro c hc
 refine some_of (Nat.le_of_ble_eq_true rfl) (by rfl) ?_
 obtain ⟨h0,h1,h2⟩:=hc
 simp -implicitDefEqProofs (maxSteps:=1000000) only [x_s_l1Byte,go_sem]
 repeat refine ⟨sc,?_⟩
 try exact sf
 refine ⟨fun q=>?_,fun q=>?_⟩
 ·have hi':c.i.toNat < c.b.length:=by simp only [decide_eq_true_eq] at q; omega
  try simp -implicitDefEqProofs (maxSteps:=1000000) only [go_sem,List.getElem?_eq_getElem hi']
  repeat refine ⟨sc,?_⟩
  try exact sf
  refine ⟨_,⟨c.b,IntKind.i64.wrap (c.i + 1),IntKind.i64.wrap (IntKind.i64.wrap (c.h * 6364136223846793005) + 1442695040888963407)⟩,?_,rfl⟩
  refine ⟨andK_255 _,?_⟩
  rw [IntWalk.i64_in _ (by omega)]
  exact ⟨by show 0≤c.i + 1; omega,by show c.i + 1≤c.b.length; omega,h2⟩
 ·refine G0 ?_
  refine ⟨_,⟨c.b,c.i,IntKind.i64.wrap (IntKind.i64.wrap (c.h * 6364136223846793005) + 1442695040888963407)⟩,?_,rfl⟩
  exact ⟨andK_255 _,h0,h1,h2⟩
def x_s_l1Below:FnX:=⟨31,[.tmp 4],
  .q [.i 4 0]
 (.seq (.q [.m 8 1,.B 9 .leq 8 0]
 (.c 9 (.q [.i 4 0]
 .ret)))
 (.seq (.q [.m 10 1,.B 11 .leq 10 256]
 (.c 11 (.q [.m 12 0,.op 13 (.call 181 [5] [(.t 12)]),.m 14 1,.b 15 .rem 13 14,.m 4 15]
 .ret)))
 (.q [.m 16 0,.op 17 (.call 181 [5] [(.t 16)]),.m 5 17]
 (.q [.m 18 0,.op 19 (.call 181 [5] [(.t 18)]),.m 6 19]
 (.q [.m 20 0,.op 21 (.call 181 [5] [(.t 20)]),.m 7 21]
 (.q [.m 22 5,.B 23 .mul 22 65536,.m 24 6,.B 25 .mul 24 256,.b 26 .add 23 25,.m 27 7,.b 28 .add 26 27,.m 29 1,.b 30 .rem 28 29,.m 4 30]
 .ret))))))⟩
theorem r_s_l1Below {Te:TE} (c_s_l1Byte:C_s_l1Byte Te):∀ (c:CurV) (n:Int) (hc:c.ok),∃ r0,(∃ (r:Int) (d:CurV),((0≤r∧(0 < n→r < n)∧(n≤0→r=0))∧d.ok)∧r0=(⟨[.one (iT r)],[d.enc,[iT n]]⟩:Res))∧RunFn Te x_s_l1Below [.ptr c.enc,.one (iT n)] r0:=by
 intro c n hc
 refine some_of (Nat.le_of_ble_eq_true rfl) (by rfl) ?_
 simp -implicitDefEqProofs (maxSteps:=1000000) only [x_s_l1Below,go_sem]
 repeat refine ⟨sc,?_⟩
 try exact sf
 refine ⟨fun q=>?_,fun q=>?_⟩
 ·refine G0 ?_
  simp only [decide_eq_true_eq] at q
  exact ⟨0,c,⟨⟨Int.le_refl _,fun h=>by omega,fun _=>rfl⟩,hc⟩,rfl⟩
 ·have hn:0 < n:=by simp only [decide_eq_false_iff_not] at q; omega
  have hz:(!(n==0))=true:=by simp; omega
  refine G0 ?_
  refine ⟨fun q2=>?_,fun q2=>?_⟩
  ·refine G0 ?_
   obtain ⟨r,d,⟨hr,hd⟩,ht⟩:=c_s_l1Byte c hc
   refine C1 (ht) hz ?_
   have:=tmod_in (n:=n) hr.1 hn
   exact ⟨_,d,⟨⟨this.1,fun _=>this.2,fun h=>by omega⟩,hd⟩,rfl⟩
  ·refine G0 ?_
   obtain ⟨r1,d1,⟨hr1,hd1⟩,ht1⟩:=c_s_l1Byte c hc
   refine C0 (ht1) ?_
   obtain ⟨r2,d2,⟨hr2,hd2⟩,ht2⟩:=c_s_l1Byte d1 hd1
   refine C0 (ht2) ?_
   obtain ⟨r3,d3,⟨hr3,hd3⟩,ht3⟩:=c_s_l1Byte d2 hd2
   refine C1 (ht3) hz ?_
   rw [IntWalk.i64_in (r1 * 65536) (by omega),IntWalk.i64_in (r2 * 256) (by omega),IntWalk.i64_in (r1 * 65536 + r2 * 256) (by omega),IntWalk.i64_in _ (by omega)]
   have:=tmod_in (a:=r1 * 65536 + r2 * 256 + r3) (n:=n) (by omega) hn
   exact ⟨_,d3,⟨⟨this.1,fun _=>this.2,fun h=>by omega⟩,hd3⟩,rfl⟩
def x_s_l1Once:FnX:=⟨9,[.tmp 4],
  .q [.F 4]
 (.q [.m 5 0,.m 6 1,.op 7 (.call 96 [5,0] [(.t 5),(.t 6)]),.B 8 .eql 7 0,.m 4 8]
 .ret)⟩
theorem r_s_l1Once {Te:TE} (c_s_l1Below:C_s_l1Below Te):∀ (c:CurV) (n:Int) (hc:c.ok),∃ r0,(∃ (r:Bool) (d:CurV),(d.ok)∧r0=(⟨[.one (bT r)],[d.enc,[iT n]]⟩:Res))∧RunFn Te x_s_l1Once [.ptr c.enc,.one (iT n)] r0:=by
 intro c n hc
 refine some_of (Nat.le_of_ble_eq_true rfl) (by rfl) ?_
 simp -implicitDefEqProofs (maxSteps:=1000000) only [x_s_l1Once,go_sem]
 repeat refine ⟨sc,?_⟩
 try exact sf
 obtain ⟨r,d,⟨_,hd⟩,ht⟩:=c_s_l1Below c n hc
 refine C0 (ht) ?_
 exact ⟨_,d,hd,rfl⟩
def x_s_NodeDel:FnX:=⟨44,[.cell 8 (some 10),.tmp 9,.tmp 10],
  .q [.v 4 0,.op 8 (.alloc [.nils 1,.nils 2,.i 0,.F,.nils 7,.i 0,.nils 3,.i 0,.i 0,.i 0]),.i 9 0,.F 10]
 (.q [.L 15 10 4,.m 16 1,.m 17 2,.c 18 108 [15,16,17],.m 14 18,.e 19 14 0,.e 20 14 1,.m 11 19,.m 12 20]
 (.seq (.q [.m 21 12]
 (.c 21 (.q [.L 22 10 4,.c 23 65 [22],.m 24 11,.s 100001 10 8 23,.m 9 24,.F 10]
 .ret)))
 (.q [.i 13 0]
 (.seq (.q [.m 25 3,.c 26 101 [25],.N 27 26]
 (.cond 27 (.reg [.i 13 1]) (.q [.f 28 4 0,.f 29 28 4,.L 30 3 29,.m 31 3,.c 32 104 [30,31],.B 33 .lss 32 0]
 (.c 33 (.reg [.i 13 2])))))
 (.q [.L 34 10 4,.m 35 3,.m 36 1,.m 37 2,.m 38 13,.op 39 (.build [.i 0,.e,.i 0,.nils 1,.i 0,.nils 1,.i 0,.F,.e,.i 0,.i 0,.i 0,.i 0] [(0,1,(.i 2)),(8,1,(.t 35)),(10,1,(.t 36)),(11,1,(.t 37)),(12,1,(.t 38))]),.c 40 110 [34,39],.e 41 40 0,.e 42 40 1,.e 43 40 2,.s 100002 10 8 41,.m 9 42,.m 10 43]
 .ret)))))⟩
theorem r_s_NodeDel {Te:TE} (c_s_l15Old:C_s_l15Old Te) (c_s_l15Copy:C_s_l15Copy Te) (c_s_NameOk:C_s_NameOk Te) (c_s_RowAt:C_s_RowAt Te) (c_s_l15End:C_s_l15End Te):C_s_NodeDel (RF Te x_s_NodeDel):=by
 intro n who seq key hn hk
 have hL:=hn.len (by decide)
 refine X0 x_s_NodeDel.eq_1 ?_
 refine C0 (c_s_l15Old n _ _ (hn.mono (by decide))) ?_
 cases g3:(n.old who seq).2
 rotate_left
 ·have e:n.del who seq key=(n,(n.old who seq).1,false):=by rw [NodeV.del,g3]; rfl
  refine G1 g3 ?_
  exact D1 (c_s_l15Copy n hL) e
 have e:n.del who seq key=n.changed ((RecV.mk 2 RowV.zero key 0 who seq (n.delCode key)).told):=by rw [NodeV.del,g3]; rfl
 have hu:n.up=true:=by
  cases g:n.up
  ·rw [NodeV.old,g] at g3; cases g3
  ·rfl
 have hr:(RecV.mk 2 RowV.zero key 0 who seq (n.delCode key)).In (2 ^ 20):=⟨RowV.zero_in _,hk⟩
 have tl:=c_s_l15End n _ hu hn hr
 refine G1 g3 ?_
 refine C0 (c_s_NameOk key (by omega)) ?_
 cases g1:nameOk key
 ·have ec:n.delCode key=1:=by rw [NodeV.delCode,g1]; rfl
  rw [ec] at tl e
  refine G0 ?_
  exact D1 (tl) e
 refine G0 ?_
 refine C0 (c_s_RowAt n.S.T key (by have:=hn.2.1.1; omega)) ?_
 cases g2:decide (rowAt n.S.T.Rows key < 0)
 ·have ec:n.delCode key=0:=by rw [NodeV.delCode,g1,g2]; rfl
  rw [ec] at tl e
  refine G1 g2 ?_
  exact D1 (tl) e
 ·have ec:n.delCode key=2:=by rw [NodeV.delCode,g1,g2]; rfl
  rw [ec] at tl e
  refine G1 g2 ?_
  exact D1 (tl) e
def x_s_NodePut:FnX:=⟨68,[.cell 10 (some 10),.tmp 11,.tmp 12],
  .q [.v 5 0,.op 10 (.alloc [.nils 1,.nils 2,.i 0,.F,.nils 7,.i 0,.nils 3,.i 0,.i 0,.i 0]),.i 11 0,.F 12]
 (.q [.L 18 10 5,.m 19 1,.m 20 2,.c 21 108 [18,19,20],.m 17 21,.e 22 17 0,.e 23 17 1,.m 13 22,.m 14 23]
 (.seq (.q [.m 24 14]
 (.c 24 (.q [.L 25 10 5,.c 26 65 [25],.m 27 13,.s 100001 10 10 26,.m 11 27,.F 12]
 .ret)))
 (.q [.f 29 5 0,.f 30 29 4,.f 31 30 1,.l 32 31,.m 33 3,.f 34 5 9,.l 35 34,.m 36 4,.c 37 109 [32,33,35,36],.m 28 37,.e 38 28 0,.e 39 28 1,.op 15 (.alloc [.e,.i 0,.nils 1,.i 0,.nils 1,.i 0,.F]),.s 100002 7 15 38,.m 16 39]
 (.seq (.q [.m 40 16,.B 41 .eql 40 0,.m 42 41,.y 42 (.f 43 5 0),.y 42 (.f 44 43 4),.y 42 (.L 45 3 44),.y 42 (.m 46 3),.y 42 (.c 47 104 [45,46]),.y 42 (.B 48 .lss 47 0),.a 49 42 48,.m 50 49,.y 50 (.f 51 5 0),.y 50 (.f 52 51 4),.y 50 (.f 53 52 0),.y 50 (.l 54 53),.y 50 (.n 55 54),.y 50 (.B 56 .geq 55 8),.a 57 50 56]
 (.c 57 (.reg [.i 16 5])))
 (.q [.L 58 10 5,.L 59 7 15,.m 60 1,.m 61 2,.m 62 16,.op 63 (.build [.i 0,.e,.i 0,.nils 1,.i 0,.nils 1,.i 0,.F,.e,.i 0,.i 0,.i 0,.i 0] [(0,1,(.i 1)),(1,7,(.t 59)),(10,1,(.t 60)),(11,1,(.t 61)),(12,1,(.t 62))]),.c 64 110 [58,63],.e 65 64 0,.e 66 64 1,.e 67 64 2,.s 100003 10 10 65,.m 11 66,.m 12 67]
 .ret)))))⟩
theorem r_s_NodePut {Te:TE} (c_s_l15Old:C_s_l15Old Te) (c_s_l15Copy:C_s_l15Copy Te) (c_s_RowOf:C_s_RowOf Te) (c_s_RowAt:C_s_RowAt Te) (c_s_l15End:C_s_l15End Te):C_s_NodePut (RF Te x_s_NodePut):=by
 intro n who seq key s hn hk hs
 have hL:=hn.len (by decide)
 refine X0 x_s_NodePut.eq_1 ?_
 refine C0 (c_s_l15Old n _ _ (hn.mono (by decide))) ?_
 cases g3:(n.old who seq).2
 rotate_left
 ·have e:n.putIn who seq key s=(n,(n.old who seq).1,false):=by rw [NodeV.putIn,g3]; rfl
  refine G1 g3 ?_
  exact D1 (c_s_l15Copy n hL) e
 have e:n.putIn who seq key s=n.changed ((recRowBy (rowOf n.S.T.Phase key n.Cs s).1 who seq (n.putCode key s)).told):=by rw [NodeV.putIn,g3]; rfl
 have hu:n.up=true:=by
  cases g:n.up
  ·rw [NodeV.old,g] at g3; cases g3
  ·rfl
 have h8:n.S.T.Rows.length≤8:=by
  have:=NodeV.up_tab hu
  simp only [TabV.ok,Bool.and_eq_true,decide_eq_true_eq] at this
  have:=this.2.1
  omega
 have hr:(recRowBy (rowOf n.S.T.Phase key n.Cs s).1 who seq (n.putCode key s)).In (2 ^ 20):=⟨rowOf_in hk,Nat.zero_le _⟩
 have tl:=c_s_l15End n _ hu hn hr
 refine G1 g3 ?_
 refine C0 (c_s_RowOf n.S.T.Phase key n.Cs s hk hs) ?_
 cases g1:((rowOf n.S.T.Phase key n.Cs s).2==0)
 ·have ec:n.putCode key s=(rowOf n.S.T.Phase key n.Cs s).2:=by rw [NodeV.putCode,g1]; rfl
  rw [ec] at tl e
  refine G1 g1 ?_
  exact D1 (tl) e
 have g0:(rowOf n.S.T.Phase key n.Cs s).2=0:=eq_of_beq g1
 refine G1 g1 ?_
 refine C0 (c_s_RowAt n.S.T key (by have:=hn.2.1.1; omega)) ?_
 cases g2:decide (rowAt n.S.T.Rows key < 0)
 ·have ec:n.putCode key s=(rowOf n.S.T.Phase key n.Cs s).2:=by rw [NodeV.putCode,g1,g2]; rfl
  rw [ec] at tl e
  refine G1 g2 ?_
  exact D1 (tl) e
 ·cases g3:((n.S.T.Rows.length:Int)==8)
  ·have ec:n.putCode key s=(rowOf n.S.T.Phase key n.Cs s).2:=by rw [NodeV.putCode,g1,g2,g3]; rfl
   have g4:decide ((n.S.T.Rows.length:Int)≥8)=false:=by simp only [beq_eq_false_iff_ne] at g3; exact decide_eq_false (by omega)
   rw [ec] at tl e
   refine G2 g2 g4 ?_
   exact D1 (tl) e
  ·have ec:n.putCode key s=5:=by rw [NodeV.putCode,g1,g2,g3]; rfl
   have g4:decide ((n.S.T.Rows.length:Int)≥8)=true:=by simp only [beq_iff_eq] at g3; exact decide_eq_true (by omega)
   rw [ec] at tl e
   refine G2 g2 g4 ?_
   exact D1 (tl) e
def x_s_l11Cell:FnX:=⟨15,[.tmp 4],
  .q [.v 3 1,.op 4 (.mv (.k (.one (.nils 1))))]
 (.seq (.draw [.m 5 0,.f 6 3 0,.l 7 6,.op 8 (.conv (.int .u8) (.t 7)),.op 9 (.bslice 1 [(.t 8)]),.op 10 (.app 1 1 (.t 5) (.t 9)),.f 11 3 1,.l 12 11,.op 13 (.conv .b2s (.t 12)),.c 14 284 [10,13],.m 4 14] [[],[],[1],[2],[3],[0,4],[],[6],[7],[5,8,5],[9,9,0,1,2,3,4,5,6,7,8,9]])
 .ret)⟩
theorem r_s_l11Cell {Te:TE} (c_s_PutText:C_s_PutText Te):C_s_l11Cell (RF Te x_s_l11Cell):=by
 intro b c hb hc
 refine run0 ?_
 have ea:=areBytes_uR c.B
 have fa:=bytesOf_uR c.B
 simp -implicitDefEqProofs (maxSteps:=1000000) only [x_s_l11Cell,go_sem,mkU_wrap,ea,fa,app1B,take1B]
 repeat refine ⟨sc,?_⟩
 try exact sf
 have tt:=c_s_PutText (b++[mkU c.Tag]) (strOf c.B) (by rw [List.length_append]; simp only [List.length_cons,List.length_nil]; omega) (by rw [strOf_size]; exact hc)
 rw [← putCell] at tt
 exact D0 (tt)
def x_i_PutRow:FnX:=⟨56,[.tmp 4],
  .q [.v 3 1,.op 4 (.mv (.k (.one (.nils 1))))]
 (.q [.m 6 0,.op 7 (.bslice 1 [(.t 6)]),.c 8 100 [7],.m 5 8]
 (.seq (.q [.L 9 7 3,.c 10 253 [9],.N 11 10]
 (.c 11 (.q [.m 12 5,.m 4 12]
 .ret)))
 (.seq (.draw [.m 13 5,.f 14 3 0,.l 15 14,.c 16 314 [13,15],.f 17 3 5,.l 18 17,.op 19 (.conv (.int .u8) (.t 18)),.f 20 3 6,.l 21 20,.c 22 352 [21],.op 23 (.bslice 1 [(.t 19),(.t 22)]),.op 24 (.app 1 1 (.t 16) (.t 23)),.m 5 24] [[],[],[1],[0,2],[],[4],[5],[],[7],[8,3],[6,9],[3,10,9],[11,11,0,1,2,3,4,5,6,7,8,9,10,11]])
 (.seq (.q [.f 25 3 5,.l 26 25,.B 27 .neq 26 2]
 (.c 27 (.draw [.m 28 5,.f 29 3 1,.f 30 29 0,.l 31 30,.op 32 (.conv (.int .u8) (.t 31)),.op 33 (.bslice 1 [(.t 32)]),.op 34 (.app 1 1 (.t 28) (.t 33)),.f 35 3 1,.f 36 35 1,.l 37 36,.op 38 (.conv .b2s (.t 37)),.c 39 314 [34,38],.m 5 39] [[],[],[1],[2],[3],[4],[0,5],[],[7],[8],[9],[6,10,6],[11,11,0,1,2,3,4,5,6,7,8,9,10,11]])))
 (.seq (.q [.f 40 3 5,.l 41 40,.B 42 .neq 41 1]
 (.c 42 (.draw [.m 43 5,.f 44 3 3,.f 45 44 0,.l 46 45,.op 47 (.conv (.int .u8) (.t 46)),.op 48 (.bslice 1 [(.t 47)]),.op 49 (.app 1 1 (.t 43) (.t 48)),.f 50 3 3,.f 51 50 1,.l 52 51,.op 53 (.conv .b2s (.t 52)),.c 54 314 [49,53],.m 5 54] [[],[],[1],[2],[3],[4],[0,5],[],[7],[8],[9],[6,10,6],[11,11,0,1,2,3,4,5,6,7,8,9,10,11]])))
 (.q [.m 55 5,.m 4 55]
 .ret))))))⟩
theorem r_i_PutRow {Te:TE} (c_i_joined:C_i_joined Te) (c_i_RowOk:C_i_RowOk Te) (c_i_PutText:C_i_PutText Te) (c_i_flag:C_i_flag Te):C_i_PutRow (RF Te x_i_PutRow):=by
 intro b r hb h
 obtain ⟨h1,h2,h3⟩:=h
 have ea:=areBytes_uR r.Old.B
 have fa:=bytesOf_uR r.Old.B
 have eb:=areBytes_uR r.New.B
 have fb:=bytesOf_uR r.New.B
 have l0:=putText_len b r.Key
 have l1:=putRow1_len b r
 have l2:=putRow2_len b r
 refine X0 x_i_PutRow.eq_1 ?_
 refine .of (c_i_joined [b] (by rw [flat1]; omega) (by show 1≤2 ^ 31; decide)) ?_
 try simp -implicitDefEqProofs (maxSteps:=1000000) only [go_sem,flat1]
 repeat refine ⟨sc,?_⟩
 try exact sf
 refine C0 (c_i_RowOk r ⟨h1,h2,h3⟩) ?_
 cases g:r.ok
 ·try simp -implicitDefEqProofs (maxSteps:=1000000) only [go_sem,putRow,g,if_false,reduceCtorEq]
  repeat refine ⟨sc,?_⟩
  try exact sf
 have ep:putRow b r=putRow3 b r:=if_pos g
 refine G0 ?_
 refine C0 (c_i_PutText b r.Key (by omega) h1) ?_
 refine .of (c_i_flag r.Aside) ?_
 try simp -implicitDefEqProofs (maxSteps:=1000000) only [go_sem,mkU_wrap,app2B,take2B]
 repeat refine ⟨sc,?_⟩
 try exact sf
 have e1:putText b r.Key++[mkU r.Has,bif r.Aside then 1 else 0]=putRow1 b r:=rfl
 have e2:(putText b r.Key).length + 2=(putRow1 b r).length:=by rw [putRow1,List.length_append]; rfl
 simp only [e1,e2]
 have gw:=win13 (rowOk_win g)
 by_cases q2:r.Has=2
 ·have k2:(r.Has != 2)=false:=by simp only [bne_eq_false_iff_eq]; exact q2
  have k1:(r.Has != 1)=true:=by simp only [bne_iff_ne,ne_eq]; omega
  have e3:putRow2 b r=putRow1 b r:=if_pos q2
  have e4:putRow3 b r=putCell (putRow1 b r) r.New:=by rw [putRow3,if_neg (by omega),e3]
  try simp -implicitDefEqProofs (maxSteps:=1000000) only [go_sem,k2,k1,eb,fb,mkU_wrap,app1B,take1B]
  repeat refine ⟨sc,?_⟩
  try exact sf
  have tt:=c_i_PutText (putRow1 b r++[mkU r.New.Tag]) (strOf r.New.B) (by rw [List.length_append]; simp only [List.length_cons,List.length_nil]; omega) (by rw [strOf_size]; exact h3)
  rw [← putCell] at tt
  exact D2 (tt) ep e4
 ·have k2:(r.Has != 2)=true:=by simp only [bne_iff_ne,ne_eq]; exact q2
  have e3:putRow2 b r=putCell (putRow1 b r) r.Old:=if_neg q2
  try simp -implicitDefEqProofs (maxSteps:=1000000) only [go_sem,k2,ea,fa,mkU_wrap,app1B,take1B]
  repeat refine ⟨sc,?_⟩
  try exact sf
  have tt:=c_i_PutText (putRow1 b r++[mkU r.Old.Tag]) (strOf r.Old.B) (by rw [List.length_append]; simp only [List.length_cons,List.length_nil]; omega) (by rw [strOf_size]; exact h2)
  rw [← putCell,← e3] at tt
  refine C0 (tt) ?_
  by_cases q1:r.Has=1
  ·have k1:(r.Has != 1)=false:=by simp only [bne_eq_false_iff_eq]; exact q1
   have e4:putRow3 b r=putRow2 b r:=if_pos q1
   exact F3 k1 ep e4
  ·have k1:(r.Has != 1)=true:=by simp only [bne_iff_ne,ne_eq]; exact q1
   have e4:putRow3 b r=putCell (putRow2 b r) r.New:=if_neg q1
   try simp -implicitDefEqProofs (maxSteps:=1000000) only [go_sem,k1,eb,fb,mkU_wrap,app1B,take1B]
   repeat refine ⟨sc,?_⟩
   try exact sf
   have tt:=c_i_PutText (putRow2 b r++[mkU r.New.Tag]) (strOf r.New.B) (by rw [List.length_append]; simp only [List.length_cons,List.length_nil]; omega) (by rw [strOf_size]; exact h3)
   rw [← putCell] at tt
   exact D2 (tt) ep e4
def x_i_Lay:FnX:=⟨44,[.cell 2 (some 9)],
  .q [.v 1 0,.op 2 (.alloc [.nils 1,.nils 2,.i 0,.F,.nils 7,.i 0,.nils 3,.i 0,.i 0])]
 (.q [.L 5 9 1,.c 6 158 [5],.op 3 (.alloc [.nils 1,.nils 2,.i 0,.F,.nils 7,.i 0,.nils 3,.i 0,.i 0]),.s 100001 9 3 6]
 (.seq (.q [.L 7 9 1,.c 8 89 [7],.N 9 8,.m 10 9,.z 10 (.f 11 1 0),.z 10 (.f 12 11 3),.z 10 (.l 13 12),.r 14 10 13,.m 15 14,.z 15 (.f 16 1 7),.z 15 (.l 17 16),.z 15 (.B 18 .eql 17 60000),.r 19 15 18]
 (.c 19 (.q [.L 20 9 3,.s 100002 9 2 20]
 .ret)))
 (.q [.f 21 1 4,.L 22 3 21,.c 23 207 [22],.m 4 23]
 (.q [.f 24 1 0,.L 25 4 24,.f 26 1 7,.l 27 26,.B 28 .add 27 1,.m 29 4,.c 30 208 [25,28,29],.f 31 3 0,.s 100003 4 31 30]
 (.seq (.q [.f 32 3 0,.f 33 32 3,.l 34 33,.N 35 34]
 (.c 35 (.reg [.f 36 1 7,.l 37 36,.B 38 .add 37 1,.m 39 4,.n 40 39,.f 41 3 7,.s 100004 1 41 38,.f 42 3 8,.s 100005 1 42 40])))
 (.q [.L 43 9 3,.s 100006 9 2 43]
 .ret))))))⟩
theorem r_i_Lay {Te:TE} (c_i_copyStore:C_i_copyStore Te) (c_i_StoreOk:C_i_StoreOk Te) (c_i_RecsOf:C_i_RecsOf Te) (c_i_laid:C_i_laid Te):C_i_Lay (RF Te x_i_Lay):=by
 intro s h
 have hL:=h.len (by decide)
 have hLT:=h.2.len (by decide)
 obtain ⟨hr1,hr2⟩:=recsOf_le h.2
 refine X0 x_i_Lay.eq_1 ?_
 refine C0 (c_i_copyStore s hL) ?_
 refine C0 (c_i_StoreOk s (h.mono (by decide))) ?_
 cases g1:s.ok
 ·have e:s.relay=s:=by rw [StoreV.relay,g1]; rfl
  try simp -implicitDefEqProofs (maxSteps:=1000000) only [go_sem,e,take_all,take_marks,StoreV.enc]
  repeat refine ⟨sc,?_⟩
  try exact sf
  try rfl
 obtain ⟨hk,_,_,_,hg,_⟩:=(StoreV.ok_iff s).1 g1
 cases g2:s.D.Down
 rotate_left
 ·have e:s.relay=s:=by rw [StoreV.relay,g1,g2]; rfl
  try simp -implicitDefEqProofs (maxSteps:=1000000) only [go_sem,g2,e,take_all,take_marks,StoreV.enc]
  repeat refine ⟨sc,?_⟩
  try exact sf
  try rfl
 cases g3:(s.Gen==60000)
 rotate_left
 ·have e:s.relay=s:=by rw [StoreV.relay,g1,g2,g3]; rfl
  try simp -implicitDefEqProofs (maxSteps:=1000000) only [go_sem,g2,g3,e,take_all,take_marks,StoreV.enc]
  repeat refine ⟨sc,?_⟩
  try exact sf
  try rfl
 have e:s.relay=s.lay (s.Gen + 1):=by rw [StoreV.relay,g1,g2,g3]; rfl
 have ew:IntKind.i64.wrap (s.Gen + 1)=s.Gen + 1:=IntWalk.i64_in _ (by omega)
 refine G2 g2 g3 ?_
 refine C0 (c_i_RecsOf s.T hLT) ?_
 have tl:=c_i_laid s.D (s.Gen + 1) (recsOf s.T) hk ⟨hr1,hr2⟩
 simp only [DevV.enc,g2] at tl
 refine G1 ew ?_
 refine C0 (tl) ?_
 cases g4:(layDev (s.Gen + 1) (recsOf s.T) s.D).Down
 ·have e2:=lay_up (s:=s) (gen:=s.Gen + 1) g4
  try simp -implicitDefEqProofs (maxSteps:=1000000) only [go_sem,g4,e,e2,ew,take_all,take_marks,StoreV.enc]
  repeat refine ⟨sc,?_⟩
  try exact sf
  try rfl
 ·have e2:=lay_down (s:=s) (gen:=s.Gen + 1) g4
  try simp -implicitDefEqProofs (maxSteps:=1000000) only [go_sem,g4,e,e2,ew,g2,take_all,take_marks,StoreV.enc]
  repeat refine ⟨sc,?_⟩
  try exact sf
  try rfl
def x_s_l3Cs:FnX:=⟨6,[.tmp 2],
  .q [.i 2 0]
 (.q [.m 3 0,.op 4 (.call 96 [5,0] [(.t 3),(.i 5)]),.op 5 (.bin .add (.i 1) (.t 4)),.m 2 5]
 .ret)⟩
theorem r_s_l3Cs {Te:TE} (c_s_l1Below:C_s_l1Below Te):∀ (c:CurV) (hc:c.ok),∃ r0,(∃ (r:Int) (d:CurV),((1≤r∧r≤5)∧d.ok)∧r0=(⟨[.one (iT r)],[d.enc]⟩:Res))∧RunFn Te x_s_l3Cs [.ptr c.enc] r0:=by
 intro c hc
 refine some_of (Nat.le_of_ble_eq_true rfl) (by rfl) ?_
 simp -implicitDefEqProofs (maxSteps:=1000000) only [x_s_l3Cs,go_sem]
 repeat refine ⟨sc,?_⟩
 try exact sf
 obtain ⟨k,d,⟨⟨hk0,hk1,_⟩,hd⟩,ht⟩:=c_s_l1Below c 5 hc
 have hk5:=hk1 (by decide)
 have w:IntKind.i64.wrap (1 + k)=1 + k:=IntWalk.i64_in _ (by omega)
 refine C1 (ht) w ?_
 exact ⟨1 + k,d,⟨⟨by omega,by omega⟩,hd⟩,rfl⟩
def x_s_l5Bytes:FnX:=⟨32,[.tmp 4],
  .q [.op 4 (.mv (.k (.one (.nils 1))))]
 (.q [.m 8 1,.m 9 0,.m 10 1,.op 11 (.call 106 [5,0,0] [(.t 9),(.t 10),(.i 5)]),.c 12 182 [8,11],.m 7 12,.e 13 7 0,.e 14 7 1,.m 5 13,.m 6 14]
 (.seq (.q [.m 15 0,.op 16 (.call 96 [5,0] [(.t 15),(.i 5)])]
 (.block 0 (.q [.B 18 .eql 16 0,.m 17 18]
 (.cond 17 (.q [.m 19 0,.m 20 5,.op 21 (.call 183 [5,1] [(.t 19),(.t 20)]),.m 4 21]
 .ret) (.q [.B 23 .eql 16 1,.m 22 23]
 (.c 22 (.q [.m 24 5,.m 25 0,.op 26 (.bslice 1 [(.i 128),(.i 129),(.i 164),(.i 255),(.i 194),(.i 157)]),.op 27 (.call 70 [5,1] [(.t 25),(.t 26)]),.op 28 (.conv (.int .u8) (.t 27)),.op 29 (.bslice 1 [(.t 28)]),.op 30 (.app 1 1 (.t 24) (.t 29)),.m 4 30]
 .ret)))))))
 (.q [.m 31 5,.m 4 31]
 .ret)))⟩
theorem r_s_l5Bytes {Te:TE} (c_s_l5Text:C_s_l5Text Te) (c_s_Encode:C_s_Encode Te) (c_s_l1Below:C_s_l1Below Te) (c_s_l1Bend:C_s_l1Bend Te) (c_s_l1Int:C_s_l1Int Te):∀ (c:CurV) (cs:Int) (hc:c.ok),∃ r0,(∃ (b:List UInt8) (d:CurV),(b.length≤81∧d.ok)∧r0=(⟨[.one (slT true 1 uR b)],[d.enc,[iT cs]]⟩:Res))∧RunFn Te x_s_l5Bytes [.ptr c.enc,.one (iT cs)] r0:=by
 intro c cs hc
 refine some_of (Nat.le_of_ble_eq_true rfl) (by rfl) ?_
 simp -implicitDefEqProofs (maxSteps:=1000000) only [x_s_l5Bytes,go_sem]
 repeat refine ⟨sc,?_⟩
 try exact sf
 obtain ⟨s,d,⟨hs,hd⟩,ht⟩:=c_s_l5Text c cs 5 hc (by decide)
 replace hs:s.size≤20:=hs
 have hl:=encode_len cs s
 refine C0 (ht) ?_
 refine C0 (c_s_Encode cs s (by omega)) ?_
 obtain ⟨k,d1,⟨⟨hk0,hk1,_⟩,hd1⟩,ht⟩:=c_s_l1Below d 5 hd
 have hk5:=hk1 (by decide)
 by_cases q0:k=0
 ·subst q0
  obtain ⟨r,d2,⟨hr,hd2⟩,ht2⟩:=c_s_l1Bend d1 (encode cs s).1 hd1 (by omega)
  refine C0 (ht) ?_
  refine C0 (ht2) ?_
  exact ⟨r,d2,⟨by omega,hd2⟩,rfl⟩
 by_cases q1:k=1
 ·subst q1
  obtain ⟨v,d2,⟨_,hd2⟩,ht2⟩:=c_s_l1Int d1 [128,129,164,255,194,157] hd1 (by decide)
  have ea:=one_byte (encode cs s).1 v
  have et:List.take ((encode cs s).1.length + 1) (List.map uR ((encode cs s).1++[mkU v]))=List.map uR ((encode cs s).1++[mkU v]):=List.take_of_length_le (by simp)
  refine C0 (ht) ?_
  refine C2 (ht2) ea et ?_
  exact ⟨(encode cs s).1++[mkU v],d2,⟨by simp only [List.length_append,List.length_cons,List.length_nil]; omega,hd2⟩,rfl⟩
 have e:∀ j:Int,k≠j→(k==j)=false:=fun j h=>by simpa using h
 refine .of (ht) ?_
 try simp -implicitDefEqProofs (maxSteps:=1000000) only [go_sem,e 0 q0,e 1 q1]
 repeat refine ⟨sc,?_⟩
 try exact sf
 exact ⟨(encode cs s).1,d1,⟨by omega,hd1⟩,rfl⟩
def x_z_DeleteFuncimplApply1:FnX:=⟨42,[.tmp 4],
  .q [.op 4 (.mv (.k (.one (.nils 7))))]
 (.q [.m 8 0,.m 9 1,.op 10 (.vcall 175 309 [0,15] [(.t 8)] (.t 9)),.m 5 10]
 (.seq (.q [.m 11 5,.B 12 .eql 11 (-1)]
 (.c 12 (.q [.m 13 0,.m 4 13]
 .ret)))
 (.seq (.q [.m 14 5,.B 15 .add 14 1,.m 6 15]
 (.block 0 (.loop [0,1,5,6] (.seq (.q [.m 16 6,.m 17 0,.n 18 17,.b 19 .lss 16 18]
 (.cond 19 .skip (.exit 0)))
 (.seq (.block 1 (.q [.m 22 0,.m 23 6,.x 24 7 22 23,.L 25 7 24,.op 7 (.alloc [.e,.i 0,.nils 1,.i 0,.nils 1,.i 0,.F]),.s 100001 7 7 25]
 (.q [.m 26 1,.L 27 7 7,.op 28 (.dcall 309 [0,15] [(.t 27)] (.t 26)),.N 29 28]
 (.c 29 (.q [.m 30 0,.m 31 5,.L 32 7 7,.x 33 7 30 31,.s 100002 7 33 32]
 (.reg [.m 34 5,.B 35 .add 34 1,.m 5 35]))))))
 (.reg [.m 20 6,.B 21 .add 20 1,.m 6 21]))))))
 (.norm [0,5] (.q [.m 36 0,.m 37 5,.op 38 (.slice 7 (.t 36) (some (.t 37)) none),⟨none,none,100003,.clear 7 [.pv (.string ⟨#[]⟩),.pv (.int .i64 0),.sl true 1 () [],.pv (.int .i64 0),.sl true 1 () [],.pv (.int .i64 0),.pv (.bool false)] (.t 38)⟩]
 (.q [.m 39 0,.m 40 5,.op 41 (.slice 7 (.t 39) none (some (.t 40))),.m 4 41]
 .ret))))))⟩
theorem r_z_DeleteFuncimplApply1 {Te:TE} (c_z_IndexFuncimplApply1:C_z_IndexFuncimplApply1 Te) (c_i_Apply1:C_i_Apply1 Te):C_z_DeleteFuncimplApply1 (RFV Te 309 x_z_DeleteFuncimplApply1):=by
 intro l r hl
 refine run0V ?_
 simp -implicitDefEqProofs (maxSteps:=1000000) only [x_z_DeleteFuncimplApply1,go_sem]
 repeat refine ⟨sc,?_⟩
 try exact sf
 refine C0 (c_z_IndexFuncimplApply1 l r (by omega)) ?_
 rcases rowAt_cases l r.Key with ⟨e1,e2⟩ | ⟨hk,e1,e2⟩
 ·have e:=delRows_none e1
  exact F2 e1 e
 have c1:((rowIx l r.Key:Int) == -1)=false:=by simp only [beq_eq_false_iff_ne]; omega
 have d1:=delRows_take hk
 refine G2 e1 c1 ?_
 refine loop_of (σ:=Nat×List RowV×List (List T)) (fun x=>⟨[(0,.one (.rf 0 0 [] 7 0 l.length)),(1,.fn 309 1 0),(5,.one (.pv (.int .i64 x.2.1.length))),(6,.one (.pv (.int .i64 x.1)))],[(1,[.pv (.int .i64 r.Kind),.pv (.string r.R.Key),.pv (.int .i64 r.R.Old.Tag),.dead,.pv (.int .i64 r.R.New.Tag),.dead,.pv (.int .i64 r.R.Has),.pv (.bool r.R.Aside),.pv (.string r.Key),.pv (.int .i64 r.N),.pv (.int .i64 r.Who),.pv (.int .i64 r.Seq),.pv (.int .i64 r.Code)])],[(0,[Tr.sl true 7 () (delSt l x.2.1 x.2.2 x.1)]),(1,r.dim)]⟩) (fun x=>x.1≤l.length∧x.2.1=delRows (l.take x.1) r.Key∧x.2.1.length + x.2.2.length=x.1∧x.2.2≠[]∧∀ y∈x.2.2,y.length=7) (fun x=>l.length - x.1) (rowIx l r.Key + 1,l.take (rowIx l r.Key),[l[rowIx l r.Key].enc true]) ?_ ⟨hk,d1.symm,by simp only [List.length_take,List.length_cons,List.length_nil]; omega,by simp,fun y hy=>by simp only [List.mem_cons,List.not_mem_nil,or_false] at hy; rw [hy]; rfl⟩ ?_
 ·have e3:delSt l (l.take (rowIx l r.Key)) [l[rowIx l r.Key].enc true] (rowIx l r.Key + 1)=l.map (RowV.enc true):=by
   simp only [delSt]
   rw [List.append_assoc,show ([l[rowIx l r.Key].enc true]++(l.drop (rowIx l r.Key + 1)).map (RowV.enc true))=(l.drop (rowIx l r.Key)).map (RowV.enc true) by rw [List.drop_eq_getElem_cons hk,List.map_cons]; rfl,← List.map_append,List.take_append_drop]
  have e4:(l.take (rowIx l r.Key)).length=rowIx l r.Key:=by rw [List.length_take]; omega
  simp -implicitDefEqProofs (maxSteps:=1000000) only [go_sem,e3,e4]
  rw [IntWalk.i64_in _ (by omega)]
  try rfl
 ·rintro ⟨j,k,m⟩ ⟨hj,hk',hm,hne,hm7⟩
  simp only at hj hk' hm hne hm7
  have el:=delSt_len hj hm
  cases q:decide ((j:Int) < (l.length:Int))
  ·have k0:j=l.length:=by simp only [decide_eq_false_iff_not] at q; omega
   subst k0
   rw [List.take_length] at hk'
   refine G2 q el ?_
   have hkl:k.length≤l.length:=by omega
   have eA:List.take k.length (delSt l k m l.length)=k.map (RowV.enc true):=by
    rw [delSt,List.append_assoc]
    exact List.take_left' (by simp)
   refine ⟨decide_eq_true (by simp only [List.length_take,el,List.length_drop]; omega),?_⟩
   rw [eA,Nat.sub_zero,List.append_assoc,List.take_left' (by simp),← hk']
   try rfl
  ·have k1:j < l.length:=by simp only [decide_eq_true_eq] at q; omega
   have eg:=delSt_get k1 hm
   have ed:(delSt l k m j).getD j []=l[j].enc true:=by rw [List.getD_eq_getElem?_getD,eg]; rfl
   refine G4 q eg ed el ?_
   refine C3 (c_i_Apply1 l[j] r) eg ed el ?_
   have st:=delRows_step (key:=r.Key) k1
   rw [← hk'] at st
   cases g:decide (l[j].Key=r.Key)
   ·obtain ⟨x,m',rfl⟩:∃ x m',m=x::m':=by
     cases m with
     | nil=>exact absurd rfl hne
     | cons x m'=>exact ⟨x,m',rfl⟩
    have e5:∀ X:List T,((delSt l k (x::m') j).set j X)[j]?=some X:=fun X=>List.getElem?_set_self (by rw [el]; exact k1)
    have e6:(j==k.length)=false:=by simp only [beq_eq_false_iff_ne]; simp only [List.length_cons] at hm; omega
    have hx7:=hm7 x (List.mem_cons_self ..)
    have e7:∀ X:List T,((delSt l k (x::m') j).set j X).getD k.length []=x:=fun X=>by
     rw [List.getD_eq_getElem?_getD,List.getElem?_set_ne (by simp only [List.length_cons] at hm; omega),← List.getD_eq_getElem?_getD,delSt_row]
    have e8:x.drop 7=[]:=List.drop_of_length_le (by omega)
    have e9:decide (k.length < l.length)=true:=decide_eq_true (by simp only [List.length_cons] at hm; omega)
    have e10:=delSt_move (k:=k) (m:=m') (x:=x) k1 hm
    simp only [goneR] at e10
    try simp -implicitDefEqProofs (maxSteps:=1000000) only [go_sem,g,eg,ed,el,e5,e6,List.set_set,List.length_set,take_rows]
    repeat refine ⟨sc,?_⟩
    try exact sf
    try simp -implicitDefEqProofs (maxSteps:=1000000) only [go_sem,storeAp,setCells,e5,e6,e7,e8,e9,e10,el,List.set_set,List.length_set,take_rows]
    repeat refine ⟨sc,?_⟩
    try exact sf
    refine ⟨(j + 1,k++[l[j]],m'++[goneR l[j]]),?_,⟨k1,by rw [st,g]; rfl,by simp only [List.length_append,List.length_cons,List.length_nil] at hm ⊢; omega,by simp,fun y hy=>by
     rcases List.mem_append.1 hy with hy | hy
     ·exact hm7 y (List.mem_cons_of_mem _ hy)
     ·simp only [List.mem_cons,List.not_mem_nil,or_false] at hy; rw [hy]; rfl⟩,by simp only; omega⟩
    rw [IntWalk.i64_in _ (by omega),IntWalk.i64_in _ (by simp only [List.length_cons] at hm; omega)]
    simp only [List.length_append]
    rfl
   ·refine G1 g ?_
    refine ⟨(j + 1,k,m++[l[j].enc true]),?_,⟨k1,by rw [st,g]; rfl,by simp only [List.length_append,List.length_cons,List.length_nil]; omega,by simp,fun y hy=>by
     rcases List.mem_append.1 hy with hy | hy
     ·exact hm7 y hy
     ·simp only [List.mem_cons,List.not_mem_nil,or_false] at hy; rw [hy]; rfl⟩,by simp only; omega⟩
    rw [IntWalk.i64_in _ (by omega),delSt_skip k1]
    rfl
def x_i_joined:FnX:=⟨18,[.tmp 2],
  .q [.op 2 (.mv (.k (.one (.nils 1))))]
 (.q [.op 6 (.bslice 1 []),.m 3 6]
 (.seq (.q [.m 7 0,.n 8 7,.i 9 0]
 (.block 0 (.loop [3,7,8,9] (.q [.b 10 .lss 9 8]
 (.seq (.cond 10 .skip (.exit 0))
 (.seq (.block 1 (.q [.x 11 1 7 9,.l 12 11,.m 5 12]
 (.reg [.m 13 3,.m 14 5,.op 15 (.app 1 1 (.t 13) (.t 14)),.m 3 15])))
 (.reg [.B 16 .add 9 1,.m 9 16])))))))
 (.norm [3] (.q [.m 17 3,.m 2 17]
 .ret))))⟩
theorem r_i_joined {Te:TE}:C_i_joined (RF Te x_i_joined):=by
 intro ps h h2
 refine run0 ?_
 simp -implicitDefEqProofs (maxSteps:=1000000) only [x_i_joined,go_sem]
 refine loop_of (σ:=Nat×List UInt8) (fun x=>⟨[(3,.one (.rf 19 0 [] 1 0 x.2.length)),(7,.one (.ro 1 (ps.map (bytesR false)))),(8,.one (.pv (.int .i64 ps.length))),(9,.one (.pv (.int .i64 x.1)))],[],[(0,[slT false 1 (bytesR false) ps]),(19,[slT true 1 uR x.2])]⟩) (fun x=>x.1≤ps.length∧x.2=(ps.take x.1).flatten) (fun x=>ps.length - x.1) (0,[]) ?_ ⟨Nat.zero_le _,rfl⟩ ?_
 ·simp -implicitDefEqProofs (maxSteps:=1000000) only [go_sem]; rfl
 ·rintro ⟨i,a⟩ ⟨hi,he⟩
  simp only at hi he
  simp -implicitDefEqProofs (maxSteps:=1000000) only [go_sem]
  refine ⟨fun h=>?_,fun h=>?_⟩
  ·have hi':i < ps.length:=by simp only [decide_eq_true_eq] at h; omega
   simp -implicitDefEqProofs (maxSteps:=1000000) only [go_sem,List.getElem?_eq_getElem hi']
   have hlen:a.length + ps[i].length≤ps.flatten.length:=by
    rw [he,← List.length_append]
    have e:=List.take_succ_eq_append_getElem hi'
    have:(ps.take i).flatten++ps[i]=(ps.take (i + 1)).flatten:=by rw [e,List.flatten_append]; simp
    rw [this]
    have h5:ps.flatten=(ps.take (i + 1)).flatten++(ps.drop (i + 1)).flatten:=by rw [← List.flatten_append,List.take_append_drop]
    rw [h5,List.length_append]
    omega
   refine ⟨⟨decide_eq_true (by omega),decide_eq_true (by omega)⟩,(i + 1,a++ps[i]),?_,⟨hi',?_⟩,by simp only; omega⟩
   ·rw [IntWalk.i64_in _ (by omega)]
    rw [show List.map uR a++List.map uR ps[i]=List.map uR (a++ps[i]) from List.map_append.symm,show a.length + ps[i].length=(a++ps[i]).length from List.length_append.symm]
    rfl
   ·rw [he,List.take_succ_eq_append_getElem hi',List.flatten_append]
    simp
  ·have hle:ps.length≤i:=by simp only [decide_eq_false_iff_not] at h; omega
   rw [List.take_of_length_le hle] at he
   subst he
   simp -implicitDefEqProofs (maxSteps:=1000000) only [go_sem]
def x_i_Sum:FnX:=⟨29,[.tmp 2],
  .q [.i 2 0]
 (.q [.i 3 65535]
 (.seq (.q [.m 6 0,.n 7 6,.i 8 0]
 (.block 0 (.loop [3,6,7,8] (.q [.b 9 .lss 8 7]
 (.seq (.cond 9 .skip (.exit 0))
 (.seq (.block 1 (.q [.x 10 1 6 8,.l 11 10,.m 5 11]
 (.q [.m 12 3,.m 13 5,.op 14 (.conv (.int .i64) (.t 13)),.op 15 (.bin .mul (.i 256) (.t 14)),.b 16 .xor 12 15,.m 3 16]
 (.q [.i 17 0]
 (.block 2 (.loop [3,6,7,8,17] (.q [.B 18 .lss 17 8]
 (.seq (.cond 18 .skip (.exit 2))
 (.seq (.block 3 (.q [.m 19 3,.B 20 .mul 19 2,.m 3 20]
 (.q [.m 21 3,.B 22 .gtr 21 65535]
 (.c 22 (.reg [.m 23 3,.B 24 .xor 23 69665,.m 3 24])))))
 (.reg [.B 25 .add 17 1,.m 17 25]))))))))))
 (.norm [3,6,7,8] (.reg [.B 26 .add 8 1,.m 8 26]))))))))
 (.norm [3] (.q [.m 27 3,.B 28 .and 27 65535,.m 2 28]
 .ret))))⟩
theorem r_i_Sum {Te:TE}:C_i_Sum (RF Te x_i_Sum):=by
 intro l h
 refine run0 ?_
 simp -implicitDefEqProofs (maxSteps:=1000000) only [x_i_Sum,go_sem]
 refine loop_of (σ:=Nat×Nat) (fun x=>⟨[(3,.one (.pv (.int .i64 x.2))),(6,.one (.ro 1 (l.map uR))),(7,.one (.pv (.int .i64 l.length))),(8,.one (.pv (.int .i64 x.1)))],[],[(0,[slT false 1 uR l])]⟩) (fun x=>x.1≤l.length∧x.2 < 65536∧x.2=(l.take x.1).foldl sumByte 65535) (fun x=>l.length - x.1) (0,65535) ?_ ⟨Nat.zero_le _,by decide,rfl⟩ ?_
 ·simp -implicitDefEqProofs (maxSteps:=1000000) only [go_sem]; rfl
 ·rintro ⟨i,s⟩ ⟨hi,hs,he⟩
  simp only at hi hs he
  simp -implicitDefEqProofs (maxSteps:=1000000) only [go_sem]
  refine ⟨fun h=>?_,fun h=>?_⟩
  ·have hi':i < l.length:=by simp only [decide_eq_true_eq] at h; omega
   have hb:=l[i].toNat_lt
   have e1:IntKind.i64.wrap (l[i].toNat:Int)=(l[i].toNat:Int):=IntWalk.i64_in _ (by omega)
   have e2:IntKind.i64.wrap (256 * (l[i].toNat:Int))=((256 * l[i].toNat:Nat):Int):=by rw [IntWalk.i64_in _ (by omega)]; rfl
   simp -implicitDefEqProofs (maxSteps:=1000000) only [go_sem,List.getElem?_eq_getElem hi',e1,e2,xor_nat s (256 * l[i].toNat) (by omega) (by omega)]
   have hx:=sumX_lt l[i] hs
   have e9:sumByte s l[i]=sumBits 8 (s ^^^ (256 * l[i].toNat)):=rfl
   generalize s ^^^ (256 * l[i].toNat)=S at *
   refine loop_of (σ:=Nat×Nat) (fun x=>⟨[(3,.one (.pv (.int .i64 x.2))),(6,.one (.ro 1 (l.map uR))),(7,.one (.pv (.int .i64 l.length))),(8,.one (.pv (.int .i64 i))),(17,.one (.pv (.int .i64 x.1)))],[],[(0,[slT false 1 uR l])]⟩) (fun x=>x.1≤8∧x.2=sumBits x.1 S) (fun x=>8 - x.1) (0,S) ?_ ⟨Nat.zero_le _,rfl⟩ ?_
   ·simp -implicitDefEqProofs (maxSteps:=1000000) only [go_sem]; rfl
   ·rintro ⟨j,v⟩ ⟨hj,hv⟩
    simp only at hj hv
    have hz:v < 65536:=by rw [hv]; exact sumBits_lt j hx
    have e3:IntKind.i64.wrap ((v:Int) * 2)=((2 * v:Nat):Int):=by rw [IntWalk.i64_in _ (by omega)]; omega
    have e4:=xor_nat (2 * v) 69665 (by omega) (by decide)
    have e5:((69665:Nat):Int)=69665:=rfl
    rw [e5] at e4
    have e6:sumBits (j + 1) S=sumBit v:=by rw [hv]; rfl
    simp -implicitDefEqProofs (maxSteps:=1000000) only [go_sem]
    refine ⟨fun h=>?_,fun h=>?_⟩
    ·have hj':j < 8:=by simp only [decide_eq_true_eq] at h; omega
     simp -implicitDefEqProofs (maxSteps:=1000000) only [go_sem,e3]
     refine ⟨fun h6=>?_,fun h6=>?_⟩
     ·simp -implicitDefEqProofs (maxSteps:=1000000) only [go_sem,e4]
      refine ⟨(j + 1,2 * v ^^^ 69665),by rw [IntWalk.i64_in _ (by omega)]; rfl,⟨hj',?_⟩,by simp only; omega⟩
      rw [e6,sumBit,if_pos (by simp only [decide_eq_true_eq] at h6; omega)]
     ·refine ⟨(j + 1,2 * v),by rw [IntWalk.i64_in _ (by omega)]; rfl,⟨hj',?_⟩,by simp only; omega⟩
      rw [e6,sumBit,if_neg (by simp only [decide_eq_false_iff_not] at h6; omega)]
    ·have hj':j=8:=by simp only [decide_eq_false_iff_not] at h; omega
     subst hj'
     rw [← e9] at hv
     refine ⟨(i + 1,v),by rw [IntWalk.i64_in _ (by omega)]; rfl,⟨hi',hz,?_⟩,by simp only; omega⟩
     simp only
     rw [List.take_succ_eq_append_getElem hi',List.foldl_append,← he,hv,List.foldl_cons,List.foldl_nil]
  ·have hle:l.length≤i:=by simp only [decide_eq_false_iff_not] at h; omega
   rw [List.take_of_length_le hle] at he
   have e7:=and_nat s 65535 (by omega) (by decide)
   have e8:((65535:Nat):Int)=65535:=rfl
   rw [e8] at e7
   simp -implicitDefEqProofs (maxSteps:=1000000) only [go_sem,e7,sum,← he]
def x_s_l2Text:FnX:=⟨22,[.tmp 4],
  .q [.op 4 (.mv (.k (.one (.pv (.string ⟨#[]⟩)))))]
 (.q [.op 7 (.bslice 1 []),.m 5 7]
 (.seq (.q [.m 8 0,.m 9 1,.B 10 .add 9 1,.op 11 (.call 96 [5,0] [(.t 8),(.t 10)]),.m 6 11]
 (.block 0 (.loop [0,5,6] (.seq (.q [.m 12 6,.B 13 .gtr 12 0]
 (.cond 13 .skip (.exit 0)))
 (.seq (.block 1 (.reg [.m 16 5,.m 17 0,.op 18 (.call 287 [5] [(.t 17)]),.c 19 189 [16,18],.m 5 19]))
 (.reg [.m 14 6,.B 15 .sub 14 1,.m 6 15]))))))
 (.norm [5] (.q [.m 20 5,.op 21 (.conv .b2s (.t 20)),.m 4 21]
 .ret))))⟩
theorem r_s_l2Text {Te:TE} (c_s_l1Below:C_s_l1Below Te) (c_s_l2Sign:C_s_l2Sign Te) (c_s_PutSign:C_s_PutSign Te):∀ (c:CurV) (most:Int) (hc:c.ok) (hm:0≤most∧most≤100),∃ r0,(∃ (r:ByteArray) (d:CurV),(r.size≤4 * most.toNat∧d.ok)∧r0=(⟨[.one (sT r)],[d.enc,[iT most]]⟩:Res))∧RunFn Te x_s_l2Text [.ptr c.enc,.one (iT most)] r0:=by
 intro c most hc hm
 refine some_of (Nat.le_of_ble_eq_true rfl) (by rfl) ?_
 have w1:IntKind.i64.wrap (most + 1)=most + 1:=IntWalk.i64_in _ (by omega)
 simp -implicitDefEqProofs (maxSteps:=1000000) only [x_s_l2Text,go_sem,w1]
 repeat refine ⟨sc,?_⟩
 try exact sf
 obtain ⟨k,d0,⟨hk,hd0⟩,ht⟩:=c_s_l1Below c (most + 1) hc
 have hk1:=hk.2.1 (by omega)
 obtain ⟨K,rfl⟩:∃ K:Nat,k=K:=⟨k.toNat,by omega⟩
 refine C0 (ht) ?_
 refine loop_of (σ:=Nat×List UInt8×CurV) (fun x=>⟨[(0,.bp 0 0),(5,.one (.rf 24 0 [] 1 0 x.2.1.length)),(6,.one (.pv (.int .i64 x.1)))],[(0,[.ro 1 (x.2.2.b.map uR),.pv (.int .i64 x.2.2.i),.pv (.int .i64 x.2.2.h)])],[(0,c.enc),(1,[iT most]),(24,[slT true 1 uR x.2.1])]⟩) (fun x=>x.1≤K∧x.2.1.length≤4 * (K - x.1)∧x.2.2.ok) (fun x=>x.1) (K,[],d0) ?_ ⟨Nat.le_refl _,Nat.zero_le _,hd0⟩ ?_
 ·simp -implicitDefEqProofs (maxSteps:=1000000) only [go_sem]
  rfl
 ·rintro ⟨i,b,d⟩ ⟨hi,hb,hd⟩
  simp only at hi hb hd
  cases q:decide ((i:Int) > 0)
  ·refine G1 q ?_
   have hi0:i=0:=by simp only [decide_eq_false_iff_not] at q; omega
   refine ⟨areBytes_uL b,⟨(bytesOf (b.map uR)).toArray⟩,d,⟨?_,hd⟩,rfl⟩
   show (bytesOf (b.map uR)).length≤_
   rw [bytesOf_uL]
   omega
  ·simp only [decide_eq_true_eq] at q
   have w2:IntKind.i64.wrap ((i:Int) - 1)=((i - 1:Nat):Int):=by rw [IntWalk.i64_in _ (by omega)]; omega
   obtain ⟨r,d1,hd1,ht⟩:=c_s_l2Sign d hd
   have q':decide ((i:Int) > 0)=true:=decide_eq_true q
   refine G1 q' ?_
   refine C0 (ht) ?_
   refine C1 (c_s_PutSign b r (by omega)) w2 ?_
   have hl:=putSign_len b r
   exact ⟨(i - 1,putSign b r,d1),rfl,⟨by simp only; omega,by simp only; omega,hd1⟩,by simp only; omega⟩
def x_s_NodeOk:FnX:=⟨11,[.tmp 2],
  .q [.v 1 0,.F 2]
 (.q [.f 3 1 0,.L 4 9 3,.c 5 119 [4],.m 6 5,.y 6 (.f 7 1 9),.y 6 (.l 8 7),.y 6 (.op 9 (.call 120 [0,0,0] [(.t 8),(.i 1),(.i 5)])),.a 10 6 9,.m 2 10]
 .ret)⟩
theorem r_s_NodeOk {Te:TE} (c_s_StoreOk:C_s_StoreOk Te) (c_s_l1In:C_s_l1In Te):C_s_NodeOk (RF Te x_s_NodeOk):=by
 intro n h
 refine run0 ?_
 simp -implicitDefEqProofs (maxSteps:=1000000) only [x_s_NodeOk,go_sem,NodeV.ok]
 repeat refine ⟨sc,?_⟩
 try exact sf
 refine C0 (c_s_StoreOk n.S h) ?_
 cases g1:n.S.ok
 ·exact F0
 ·refine G0 ?_
  exact D0 (c_s_l1In _ _ _)
end Go.X

