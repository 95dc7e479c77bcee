/- Texts: CVzf_3 CVu_2 CVv CF CVa CQ CC_2 CVs_2 CEa_3 CVe CVc_2. -/
import Derived.Test.YtekagnknkodidaaGreatDoorC04
set_option linter.unusedVariables false
set_option linter.unusedSimpArgs false
namespace Go.X
set_option maxRecDepth 100000
set_option maxHeartbeats 8000000
def x_s_l18Late:FnX:=⟨35,[.tmp 4],
  .q [.v 2 0,.v 3 1,.F 4]
 (.q [.f 8 2 0,.f 9 8 4,.L 10 3 9,.f 11 3 1,.l 12 11,.c 13 86 [10,12],.m 7 13,.e 14 7 0,.e 15 7 1,.op 5 (.alloc [.i 0,.i 0,.i 0]),.s 100001 3 5 14,.m 6 15]
 (.q [.f 16 3 1,.l 17 16,.op 18 (.call 42 [0,0,0] [(.t 17),(.i 1),(.i 9)]),.N 19 18,.m 20 19,.z 20 (.f 21 3 3),.z 20 (.l 22 21),.z 20 (.B 23 .lss 22 1),.r 24 20 23,.m 25 24,.z 25 (.m 26 6),.z 25 (.m 27 26),.y 27 (.f 28 5 1),.y 27 (.l 29 28),.y 27 (.f 30 3 3),.y 27 (.l 31 30),.y 27 (.b 32 .gtr 29 31),.z 25 (.a 33 27 32),.r 34 25 33,.m 4 34]
 .ret))⟩
theorem r_s_l18Late {Te:TE} (c_s_MarkAt:C_s_MarkAt Te) (c_s_l1In:C_s_l1In Te):C_s_l18Late (RF Te x_s_l18Late):=by
 intro n m hn hk
 have hs:win m.Seq 1 65535 = !decide (m.Seq < 1):=by
  simp only [Msg.ok,win,Bool.and_eq_true,decide_eq_true_eq] at hk
  by_cases g:m.Seq < 1
  ·rw [decide_eq_true g]
   simp only [win,Bool.and_eq_false_iff,decide_eq_false_iff_not,Bool.not_true]
   omega
  ·rw [decide_eq_false g]
   simp only [win,Bool.and_eq_true,decide_eq_true_eq,Bool.not_false]
   omega
 refine X0 x_s_l18Late.eq_1 ?_
 refine C0 (c_s_MarkAt n.S.T m.From (by have:=hn.2.2; omega)) ?_
 refine C0 (c_s_l1In _ _ _) ?_
 cases g1:win m.From 1 9
 ·have e:n.late m=true:=by rw [NodeV.late,g1]; rfl
  exact F1 e
 cases g2:decide (m.Seq < 1)
 rotate_left
 ·have e:n.late m=true:=by rw [NodeV.late,g1,hs,g2]; rfl
  exact F2 g2 e
 have e:n.late m=lateMark n m:=by rw [NodeV.late,g1,hs,g2]; rfl
 cases gm:markAt n.S.T.Marks m.From with
 | none =>
  have e2:lateMark n m=false:=by rw [lateMark,gm]
  exact F3 g2 e e2
 | some k =>
  have e2:lateMark n m=decide (k.Seq > m.Seq):=by rw [lateMark,gm]
  exact F3 g2 e e2
def x_s_l18Write:FnX:=⟨34,[.cell 4 (some 10),.tmp 5,.tmp 6],
  .q [.v 2 0,.v 3 1,.op 4 (.alloc [.nils 1,.nils 2,.i 0,.F,.nils 7,.i 0,.nils 3,.i 0,.i 0,.i 0]),.i 5 0,.F 6]
 (.seq (.q [.f 7 3 0,.l 8 7,.B 9 .eql 8 3]
 (.c 9 (.q [.L 10 10 2,.f 11 3 1,.l 12 11,.f 13 3 3,.l 14 13,.f 15 3 4,.l 16 15,.f 17 3 5,.l 18 17,.c 19 87 [10,12,14,16,18],.e 20 19 0,.e 21 19 1,.e 22 19 2,.s 100001 10 4 20,.m 5 21,.m 6 22]
 .ret)))
 (.q [.L 23 10 2,.f 24 3 1,.l 25 24,.f 26 3 3,.l 27 26,.f 28 3 4,.l 29 28,.c 30 88 [23,25,27,29],.e 31 30 0,.e 32 30 1,.e 33 30 2,.s 100002 10 4 31,.m 5 32,.m 6 33]
 .ret))⟩
theorem r_s_l18Write {Te:TE} (c_s_NodePut:C_s_NodePut Te) (c_s_NodeDel:C_s_NodeDel Te):C_s_l18Write (RF Te x_s_l18Write):=by
 intro n m hn hm
 refine X0 x_s_l18Write.eq_1 ?_
 cases g:(m.Kind==3)
 ·have e:n.wrote m=n.del m.From m.Seq m.Key:=by rw [NodeV.wrote,g]; rfl
  refine G1 g ?_
  exact D1 (c_s_NodeDel n m.From m.Seq m.Key hn hm.1) e
 ·have e:n.wrote m=n.putIn m.From m.Seq m.Key m.Text:=by rw [NodeV.wrote,g]; rfl
  refine G1 g ?_
  exact D1 (c_s_NodePut n m.From m.Seq m.Key m.Text hn hm.1 hm.2) e
def x_s_l18Text:FnX:=⟨11,[.tmp 4,.tmp 5],
  .q [.v 2 0,.op 4 (.mv (.k (.one (.pv (.string ⟨#[]⟩))))),.i 5 0]
 (.q [.L 6 10 2,.m 7 1,.c 8 85 [6,7],.e 9 8 0,.e 10 8 1,.m 4 9,.m 5 10]
 .ret)⟩
theorem r_s_l18Text {Te:TE} (c_s_NodeGet:C_s_NodeGet Te):C_s_l18Text (RF Te x_s_l18Text):=by
 intro n key h
 refine X0 x_s_l18Text.eq_1 ?_
 exact D0 (c_s_NodeGet n key h)
def x_s_l18Get:FnX:=⟨19,[.tmp 4],
  .q [.v 2 0,.v 3 1,.op 4 (.mv (.k (.one (.nils 8))))]
 (.q [.L 6 8 3,.op 7 (.call 46 [0,0] [(.t 6),(.i 2)]),.op 5 (.alloc [.i 0,.i 0,.i 0,.i 0,.e,.e,.i 0,.i 0]),.s 100001 8 5 7]
 (.q [.L 9 10 2,.f 10 3 4,.l 11 10,.c 12 47 [9,11],.m 8 12,.e 13 8 0,.e 14 8 1,.f 15 5 5,.s 100002 1 15 13,.f 16 5 7,.s 100003 1 16 14]
 (.q [.L 17 8 5,.op 18 (.bslice 8 [(.t 17)]),.m 4 18]
 .ret)))⟩
theorem r_s_l18Get {Te:TE} (c_s_l18Back:C_s_l18Back Te) (c_s_l18Text:C_s_l18Text Te):C_s_l18Get (RF Te x_s_l18Get):=by
 intro n m hn
 refine X0 x_s_l18Get.eq_1 ?_
 refine C0 (c_s_l18Back m 2) ?_
 exact D0 (c_s_l18Text n m.Key (hn.mono (by decide)))
def x_s_l18Put:FnX:=⟨50,[.cell 4 (some 10),.tmp 5,.tmp 6],
  .q [.v 2 0,.v 3 1,.op 4 (.alloc [.nils 1,.nils 2,.i 0,.F,.nils 7,.i 0,.nils 3,.i 0,.i 0,.i 0]),.op 5 (.mv (.k (.one (.nils 8)))),.op 6 (.mv (.k (.one (.nils 6))))]
 (.q [.op 12 (.bslice 8 []),.m 7 12]
 (.seq (.q [.L 13 10 2,.L 14 8 3,.c 15 48 [13,14]]
 (.c 15 (.q [.L 16 10 2,.c 17 22 [16],.m 18 7,.op 19 (.bslice 6 []),.s 100001 10 4 17,.m 5 18,.m 6 19]
 .ret)))
 (.q [.L 21 10 2,.L 22 8 3,.c 23 49 [21,22],.m 20 23,.e 24 20 0,.e 25 20 1,.e 26 20 2,.op 8 (.alloc [.nils 1,.nils 2,.i 0,.F,.nils 7,.i 0,.nils 3,.i 0,.i 0,.i 0]),.s 100002 10 8 24,.m 9 25,.m 10 26]
 (.seq (.q [.f 27 8 0,.f 28 27 0,.f 29 28 3,.l 30 29]
 (.c 30 (.q [.L 31 10 8,.m 32 7,.op 33 (.bslice 6 []),.s 100003 10 4 31,.m 5 32,.m 6 33]
 .ret)))
 (.q [.L 34 8 3,.op 35 (.call 46 [0,0] [(.t 34),(.i 5)]),.op 11 (.alloc [.i 0,.i 0,.i 0,.i 0,.e,.e,.i 0,.i 0]),.s 100004 8 11 35]
 (.q [.m 36 9,.f 37 11 7,.s 100005 1 37 36]
 (.seq (.q [.m 38 10]
 (.c 38 (.seq (.draw [.L 39 10 8,.L 40 8 11,.op 41 (.bslice 8 [(.t 40)]),.L 42 8 3,.m 43 9,.c 44 50 [42,43],.op 45 (.bslice 6 [(.t 44)]),.s 100006 10 4 39,.m 5 41,.m 6 45] [[],[],[1],[],[],[3,4],[5],[0,5,0],[2,7,0,1,2,7],[6,8,0,1,2,3,4,5,6,7,8]])
 .ret)))
 (.seq (.draw [.L 46 10 8,.L 47 8 11,.op 48 (.bslice 8 [(.t 47)]),.op 49 (.bslice 6 []),.s 100007 10 4 46,.m 5 48,.m 6 49] [[],[],[1],[],[0,0],[2,4,0,1,2,4],[3,5,0,1,2,3,4,5]])
 .ret))))))))⟩
theorem r_s_l18Put {Te:TE} (c_s_l18Late:C_s_l18Late Te) (c_s_l15Copy:C_s_l15Copy Te) (c_s_l18Write:C_s_l18Write Te) (c_s_l18Back:C_s_l18Back Te) (c_s_l18Act:C_s_l18Act Te):C_s_l18Put (RF Te x_s_l18Put):=by
 intro n m hn hm hk h34
 have hL:=hn.len (by decide)
 refine X0 x_s_l18Put.eq_1 ?_
 refine C0 (c_s_l18Late n m hn hk) ?_
 cases g1:n.late m
 rotate_left
 ·have e:n.deskPut m (back m 0)=(n,[],[]):=by rw [NodeV.deskPut,g1]; rfl
  refine G0 ?_
  exact D1 (c_s_l15Copy n hL) e
 refine G0 ?_
 refine C0 (c_s_l18Write n m hn hm) ?_
 cases g2:(n.wrote m).1.S.D.Down
 rotate_left
 ·have g3:(n.wrote m).2.2=false:=by
   cases g:(n.wrote m).2.2
   ·rfl
   ·rw [wrote_up g] at g2; cases g2
  have e:n.deskPut m (back m 0)=((n.wrote m).1,[],[]):=by rw [NodeV.deskPut,g1,g2,g3]; rfl
  try simp -implicitDefEqProofs (maxSteps:=1000000) only [go_sem,g2,e,take_all,take_marks,NodeV.enc,StoreV.enc,DevV.enc]
  repeat refine ⟨sc,?_⟩
  try exact sf
  try rfl
 refine G1 g2 ?_
 refine C0 (c_s_l18Back m 5) ?_
 cases g3:(n.wrote m).2.2
 ·have e:n.deskPut m (back m 0)=((n.wrote m).1,[⟨5,m.To,m.From,m.Seq,⟨#[]⟩,⟨#[]⟩,0,(n.wrote m).2.1⟩],[]):=by rw [NodeV.deskPut,g1,g2,g3]; rfl
  try simp -implicitDefEqProofs (maxSteps:=1000000) only [go_sem,g3,e,g2,take_all,take_marks,NodeV.enc,StoreV.enc,DevV.enc]
  repeat refine ⟨sc,?_⟩
  try exact sf
  try rfl
 ·have e:n.deskPut m (back m 0)=((n.wrote m).1,[⟨5,m.To,m.From,m.Seq,⟨#[]⟩,⟨#[]⟩,0,(n.wrote m).2.1⟩],[actV m (n.wrote m).2.1]):=by rw [NodeV.deskPut,g1,g2,g3]; rfl
  refine G1 g3 ?_
  refine .of (c_s_l18Act m (n.wrote m).2.1 h34) ?_
  try simp -implicitDefEqProofs (maxSteps:=1000000) only [go_sem,e,g2,take_all,take_marks,NodeV.enc,StoreV.enc,DevV.enc]
  repeat refine ⟨sc,?_⟩
  try exact sf
  try rfl
def x_i_Add_1:XCode:=.seq (.q [.f 36 6 0,.f 37 36 3,.l 38 37,.m 39 38,.z 39 (.f 40 6 8),.z 39 (.l 41 40),.z 39 (.B 42 .eql 41 30),.r 43 39 42]
 (.c 43 (.q [.L 44 9 6,.s 100005 9 4 44,.F 5]
 .ret)))
 (.seq (.draw [.f 45 6 0,.L 46 4 45,.f 47 6 7,.l 48 47,.f 49 6 8,.l 50 49,.c 51 162 [48,50],.f 52 6 7,.l 53 52,.f 54 6 8,.l 55 54,.L 56 13 3,.c 57 163 [53,55,56],.c 58 161 [46,51,57],.f 59 6 0,.s 100006 4 59 58] [[],[0],[],[2],[],[4],[3,5],[],[7],[],[9],[],[8,10,11,6],[1,6,12,12],[0,1,2,3,4,5,6,7,8,9,10,11,12,13],[14,13,13,0,1,2,3,4,5,6,7,8,9,10,11,12,13]])
 (.q [.f 60 6 0,.L 61 4 60,.c 62 164 [61],.f 63 6 0,.s 100007 4 63 62]
 (.seq (.q [.f 64 6 0,.f 65 64 3,.l 66 65]
 (.c 66 (.q [.L 67 9 6,.s 100008 9 4 67,.F 5]
 .ret)))
 (.q [.f 68 6 8,.l 69 68,.B 70 .add 69 1,.f 71 6 8,.s 100009 1 71 70]
 (.q [.L 72 3 7,.f 73 6 4,.s 100010 3 73 72]
 (.q [.L 74 9 6,.s 100011 9 4 74,.T 5]
 .ret))))))
def x_i_Add:FnX:=⟨75,[.cell 4 (some 9),.tmp 5],
  .q [.v 2 0,.v 3 1,.op 4 (.alloc [.nils 1,.nils 2,.i 0,.F,.nils 7,.i 0,.nils 3,.i 0,.i 0]),.F 5]
 (.q [.L 9 9 2,.c 10 55 [9],.op 6 (.alloc [.nils 1,.nils 2,.i 0,.F,.nils 7,.i 0,.nils 3,.i 0,.i 0]),.s 100001 9 6 10]
 (.q [.f 12 2 4,.L 13 3 12,.L 14 13 3,.c 15 159 [13,14],.m 11 15,.e 16 11 0,.e 17 11 1,.op 7 (.alloc [.nils 7,.i 0,.nils 3]),.s 100002 3 7 16,.m 8 17]
 (.seq (.q [.L 18 9 2,.c 19 154 [18],.N 20 19,.m 21 20,.z 21 (.f 22 2 0),.z 21 (.f 23 22 3),.z 21 (.l 24 23),.r 25 21 24,.m 26 25,.z 26 (.m 27 8),.z 26 (.N 28 27),.r 29 26 28]
 (.c 29 (.q [.L 30 9 6,.s 100003 9 4 30,.F 5]
 .ret)))
 (.seq (.q [.f 31 6 8,.l 32 31,.B 33 .eql 32 30]
 (.c 33 (.reg [.L 34 9 6,.c 35 160 [34],.s 100004 9 6 35])))
 (.norm [3,4,6,7] (x_i_Add_1))))))⟩
theorem r_i_Add {Te:TE} (c_i_copyStore:C_i_copyStore Te) (c_i_Apply:C_i_Apply Te) (c_i_StoreOk:C_i_StoreOk Te) (c_i_Lay:C_i_Lay Te) (c_i_sectorOf:C_i_sectorOf Te) (c_i_PutRec:C_i_PutRec Te) (c_i_WriteSec:C_i_WriteSec Te) (c_i_FlushDev:C_i_FlushDev Te):C_i_Add (RF Te x_i_Add):=by
 intro s r hs hr
 have hL:=hs.len (by decide)
 refine X0 x_i_Add.eq_1 ?_
 refine C0 (c_i_copyStore s hL) ?_
 refine C0 (c_i_Apply s.T r hs.2 hr) ?_
 refine C0 (c_i_StoreOk s (hs.mono (by decide))) ?_
 cases g1:s.ok
 ·have e:s.add r=(s,false):=by rw [StoreV.add,StoreV.fits,g1]; rfl
  try simp -implicitDefEqProofs (maxSteps:=1000000) only [go_sem,e,take_all,take_marks,StoreV.enc]
  repeat refine ⟨sc,?_⟩
  try exact sf
  try rfl
 cases g2:s.D.Down
 rotate_left
 ·have e:s.add r=(s,false):=by rw [StoreV.add,StoreV.fits,g1,g2]; rfl
  try simp -implicitDefEqProofs (maxSteps:=1000000) only [go_sem,g2,e,take_all,take_marks,StoreV.enc]
  repeat refine ⟨sc,?_⟩
  try exact sf
  try rfl
 cases g3:(s.T.apply r).2
 ·have e:s.add r=(s,false):=by rw [StoreV.add,StoreV.fits,g1,g2,g3]; rfl
  try simp -implicitDefEqProofs (maxSteps:=1000000) only [go_sem,g2,g3,e,take_all,take_marks,StoreV.enc]
  repeat refine ⟨sc,?_⟩
  try exact sf
  try rfl
 have e:s.add r=s.room.end (s.T.apply r).1 r:=by rw [StoreV.add,StoreV.fits,g1,g2,g3]; rfl
 have hr8:=hr.mono (m:=2 ^ 48) (by decide)
 have q:=room_ok g1 hs.2
 have hk1:=(StoreV.ok_iff s).1 g1
 rw [e]
 generalize (s.T.apply r).1=t
 clear e
 cases g4:(s.Place==30)
 ·have er:s.room=s:=by rw [StoreV.room,g4]; rfl
  rw [er] at q ⊢
  have f2:=write_ok q.1 (secOf s.Gen s.Place) (putRec s.Gen s.Place r)
  have hp:=putRec_len s.Gen s.Place r
  have ew:IntKind.i64.wrap (s.Place + 1)=s.Place + 1:=IntWalk.i64_in _ (by omega)
  have t1:=c_i_WriteSec s.D (secOf s.Gen s.Place) (putRec s.Gen s.Place r) q.1 (by omega)
  simp only [DevV.enc,g2] at t1
  refine G2 g2 g4 ?_
  simp -implicitDefEqProofs (maxSteps:=1000000) only [x_i_Add_1,go_sem,g4]
  repeat refine ⟨sc,?_⟩
  refine C0 (c_i_sectorOf _ _) ?_
  refine C0 (c_i_PutRec s.Gen s.Place r hr8) ?_
  refine C0 (t1) ?_
  refine C0 (c_i_FlushDev _ f2) ?_
  have el:((s.D.write (secOf s.Gen s.Place) (putRec s.Gen s.Place r)).flush)=s.log r:=rfl
  rw [el]
  cases g9:(s.log r).Down
  ·have e2:s.end t r=(⟨s.log r,t,s.Gen,s.Place + 1⟩,true):=by rw [StoreV.end,g2,g4,g9]; rfl
   try simp -implicitDefEqProofs (maxSteps:=1000000) only [go_sem,g9,ew,e2,take_all,take_marks,StoreV.enc]
   repeat refine ⟨sc,?_⟩
   try exact sf
   try rfl
  ·have e2:s.end t r=(⟨s.log r,s.T,s.Gen,s.Place⟩,false):=by rw [StoreV.end,g2,g4,g9]; rfl
   try simp -implicitDefEqProofs (maxSteps:=1000000) only [go_sem,g9,e2,take_all,take_marks,StoreV.enc]
   repeat refine ⟨sc,?_⟩
   try exact sf
   try rfl
 ·have er:s.room=s.relay:=by rw [StoreV.room,g4]; rfl
  rw [er] at q ⊢
  have tl:=c_i_Lay s hs
  simp only [StoreV.enc,DevV.enc,g2] at tl
  refine G2 g2 g4 ?_
  refine C0 (tl) ?_
  generalize s.relay=S at q ⊢
  cases gd:S.D.Down
  rotate_left
  ·have e2:S.end t r=(S,false):=by rw [StoreV.end,gd]; rfl
   try simp -implicitDefEqProofs (maxSteps:=1000000) only [go_sem,x_i_Add_1,gd,e2,take_all,take_marks,StoreV.enc]
   repeat refine ⟨sc,?_⟩
   try exact sf
   try rfl
  cases gp:(S.Place==30)
  rotate_left
  ·have e2:S.end t r=(S,false):=by rw [StoreV.end,gd,gp]; rfl
   try simp -implicitDefEqProofs (maxSteps:=1000000) only [go_sem,x_i_Add_1,gd,gp,e2,take_all,take_marks,StoreV.enc]
   repeat refine ⟨sc,?_⟩
   try exact sf
   try rfl
  have f2:=write_ok q.1 (secOf S.Gen S.Place) (putRec S.Gen S.Place r)
  have hp:=putRec_len S.Gen S.Place r
  have ew:IntKind.i64.wrap (S.Place + 1)=S.Place + 1:=IntWalk.i64_in _ (by omega)
  have t1:=c_i_WriteSec S.D (secOf S.Gen S.Place) (putRec S.Gen S.Place r) q.1 (by omega)
  simp only [DevV.enc,gd] at t1
  simp -implicitDefEqProofs (maxSteps:=1000000) only [x_i_Add_1,go_sem,gd,gp]
  repeat refine ⟨sc,?_⟩
  refine C0 (c_i_sectorOf _ _) ?_
  refine C0 (c_i_PutRec S.Gen S.Place r hr8) ?_
  refine C0 (t1) ?_
  refine C0 (c_i_FlushDev _ f2) ?_
  have el:((S.D.write (secOf S.Gen S.Place) (putRec S.Gen S.Place r)).flush)=S.log r:=rfl
  rw [el]
  cases g9:(S.log r).Down
  ·have e2:S.end t r=(⟨S.log r,t,S.Gen,S.Place + 1⟩,true):=by rw [StoreV.end,gd,gp,g9]; rfl
   try simp -implicitDefEqProofs (maxSteps:=1000000) only [go_sem,g9,ew,e2,take_all,take_marks,StoreV.enc]
   repeat refine ⟨sc,?_⟩
   try exact sf
   try rfl
  ·have e2:S.end t r=(⟨S.log r,S.T,S.Gen,S.Place⟩,false):=by rw [StoreV.end,gd,gp,g9]; rfl
   try simp -implicitDefEqProofs (maxSteps:=1000000) only [go_sem,g9,e2,take_all,take_marks,StoreV.enc]
   repeat refine ⟨sc,?_⟩
   try exact sf
   try rfl
def x_i_added:FnX:=⟨20,[.cell 4 (some 10),.tmp 5],
  .q [.v 2 0,.v 3 1,.op 4 (.alloc [.nils 1,.nils 2,.i 0,.F,.nils 7,.i 0,.nils 3,.i 0,.i 0,.i 0]),.F 5]
 (.q [.f 9 2 0,.L 10 9 9,.L 11 13 3,.c 12 109 [10,11],.m 8 12,.e 13 8 0,.e 14 8 1,.op 6 (.alloc [.nils 1,.nils 2,.i 0,.F,.nils 7,.i 0,.nils 3,.i 0,.i 0]),.s 100001 9 6 13,.m 7 14]
 (.q [.L 15 9 6,.f 16 2 9,.l 17 16,.op 18 (.build [.nils 1,.nils 2,.i 0,.F,.nils 7,.i 0,.nils 3,.i 0,.i 0,.i 0] [(0,9,(.t 15)),(9,1,(.t 17))]),.m 19 7,.s 100002 10 4 18,.m 5 19]
 .ret))⟩
theorem r_i_added {Te:TE} (c_i_Add:C_i_Add Te):C_i_added (RF Te x_i_added):=by
 intro n r hn hr
 refine X0 x_i_added.eq_1 ?_
 refine .of (c_i_Add n.S r hn hr) ?_
 try simp -implicitDefEqProofs (maxSteps:=1000000) only [go_sem,take_all,take_marks,StoreV.enc]
 repeat refine ⟨sc,?_⟩
 try exact sf
 try rfl
def x_i_MarkAt:FnX:=⟨22,[.cell 4 (some 3),.tmp 5],
  .q [.v 2 0,.op 4 (.alloc [.i 0,.i 0,.i 0]),.F 5]
 (.seq (.q [.f 8 2 2,.l 9 8,.n 10 9,.i 11 0]
 (.block 0 (.loop [1,4,9,10,11] (.q [.b 12 .lss 11 10]
 (.seq (.cond 12 .skip (.exit 0))
 (.seq (.block 1 (.q [.x 13 3 9 11,.L 14 3 13,.op 7 (.alloc [.i 0,.i 0,.i 0]),.s 100001 3 7 14]
 (.q [.f 15 7 0,.l 16 15,.m 17 1,.b 18 .eql 16 17]
 (.c 18 (.q [.L 19 3 7,.s 100002 3 4 19,.T 5]
 .ret)))))
 (.reg [.B 20 .add 11 1,.m 11 20])))))))
 (.norm [4] (.q [.op 21 (.build [.i 0,.i 0,.i 0] []),.s 100003 3 4 21,.F 5]
 .ret)))⟩
theorem r_i_MarkAt {Te:TE}:C_i_MarkAt (RF Te x_i_MarkAt):=by
 intro t who hl
 refine X0 x_i_MarkAt.eq_1 ?_
 refine loop_of (σ:=Nat) (fun i=>⟨[(1,.one (.pv (.int .i64 who))),(4,.bp 4 0),(9,.one (.ro 3 (t.Marks.map MarkV.row))),(10,.one (.pv (.int .i64 t.Marks.length))),(11,.one (.pv (.int .i64 i)))],[(4,[.pv (.int .i64 0),.pv (.int .i64 0),.pv (.int .i64 0)])],[(0,t.enc false),(1,[iT who])]⟩) (fun i=>i≤t.Marks.length∧∀ j (hj:j < t.Marks.length),j < i→(t.Marks[j].Who==who)=false) (fun i=>t.Marks.length - i) 0 ?_ ⟨Nat.zero_le _,fun j _ h=>absurd h (Nat.not_lt_zero _)⟩ ?_
 ·simp -implicitDefEqProofs (maxSteps:=1000000) only [go_sem]
  try rfl
 ·rintro i ⟨hi,hp⟩
  cases q:decide ((i:Int) < (t.Marks.length:Int))
  ·have e:=markAt_none (i:=i) (by simp only [decide_eq_false_iff_not] at q; omega) hp
   exact F2 q e
  ·have k1:i < t.Marks.length:=by simp only [decide_eq_true_eq] at q; omega
   cases g:(t.Marks[i].Who==who)
   ·refine G3 q (List.getElem?_eq_getElem k1) g ?_
    refine ⟨i + 1,?_,⟨k1,markAt_step k1 hp g⟩,by omega⟩
    rw [IntWalk.i64_in _ (by omega)]
    rfl
   ·have e:=markAt_hit k1 hp g
    exact F4 q (List.getElem?_eq_getElem k1) g e
def x_s_MarkAt:FnX:=⟨28,[.cell 4 (some 3),.tmp 5],
  .q [.v 2 0,.op 4 (.alloc [.i 0,.i 0,.i 0]),.F 5]
 (.seq (.q [.i 6 0]
 (.block 0 (.loop [1,2,4,6] (.seq (.q [.m 7 6,.f 8 2 2,.l 9 8,.n 10 9,.b 11 .lss 7 10]
 (.cond 11 .skip (.exit 0)))
 (.seq (.block 1 (.q [.f 14 2 2,.l 15 14,.m 16 6,.x 17 3 15 16,.f 18 17 0,.l 19 18,.m 20 1,.b 21 .eql 19 20]
 (.c 21 (.q [.f 22 2 2,.l 23 22,.m 24 6,.x 25 3 23 24,.L 26 3 25,.s 100001 3 4 26,.T 5]
 .ret))))
 (.reg [.m 12 6,.B 13 .add 12 1,.m 6 13]))))))
 (.norm [4] (.q [.op 27 (.build [.i 0,.i 0,.i 0] []),.s 100002 3 4 27,.F 5]
 .ret)))⟩
theorem r_s_MarkAt {Te:TE}:C_s_MarkAt (RF Te x_s_MarkAt):=by
 intro t who hl
 refine X0 x_s_MarkAt.eq_1 ?_
 refine loop_of (σ:=Nat) (fun i=>⟨[(1,.one (.pv (.int .i64 who))),(2,.bp 2 0),(4,.bp 4 0),(6,.one (.pv (.int .i64 i)))],[(2,[.ro 7 (t.Rows.map (RowV.enc false)),.pv (.int .i64 t.Phase),.ro 3 (t.Marks.map MarkV.row)]),(4,[.pv (.int .i64 0),.pv (.int .i64 0),.pv (.int .i64 0)])],[(0,t.enc false),(1,[iT who])]⟩) (fun i=>i≤t.Marks.length∧∀ j (hj:j < t.Marks.length),j < i→(t.Marks[j].Who==who)=false) (fun i=>t.Marks.length - i) 0 ?_ ⟨Nat.zero_le _,fun j _ h=>absurd h (Nat.not_lt_zero _)⟩ ?_
 ·simp -implicitDefEqProofs (maxSteps:=1000000) only [go_sem]
  try rfl
 ·rintro i ⟨hi,hp⟩
  cases q:decide ((i:Int) < (t.Marks.length:Int))
  ·have e:=markAt_none (i:=i) (by simp only [decide_eq_false_iff_not] at q; omega) hp
   exact F2 q e
  ·have k1:i < t.Marks.length:=by simp only [decide_eq_true_eq] at q; omega
   cases g:(t.Marks[i].Who==who)
   ·refine G3 q (List.getElem?_eq_getElem k1) g ?_
    refine ⟨i + 1,?_,⟨k1,markAt_step k1 hp g⟩,by omega⟩
    rw [IntWalk.i64_in _ (by omega)]
    rfl
   ·have e:=markAt_hit k1 hp g
    exact F4 q (List.getElem?_eq_getElem k1) g e
def x_i_mayAsk:FnX:=⟨11,[.tmp 4],
  .q [.F 4]
 (.q [.m 5 0,.op 6 (.call 57 [0,0,0] [(.t 5),(.i 1),(.i 9)]),.m 7 6,.y 7 (.m 8 1),.y 7 (.op 9 (.call 57 [0,0,0] [(.t 8),(.i 1),(.i 65535)])),.a 10 7 9,.m 4 10]
 .ret)⟩
theorem r_i_mayAsk {Te:TE} (c_i_within:C_i_within Te):C_i_mayAsk (RF Te x_i_mayAsk):=by
 intro who seq
 refine X0 x_i_mayAsk.eq_1 ?_
 refine C0 (c_i_within _ _ _) ?_
 cases g:win who 1 9
 ·exact F0
 ·refine G0 ?_
  exact D0 (c_i_within _ _ _)
def x_i_askedBefore:FnX:=⟨34,[.tmp 6,.tmp 7],
  .q [.v 3 0,.i 6 0,.F 7]
 (.q [.f 11 3 0,.f 12 11 4,.L 13 3 12,.m 14 1,.c 15 61 [13,14],.m 10 15,.e 16 10 0,.e 17 10 1,.op 8 (.alloc [.i 0,.i 0,.i 0]),.s 100001 3 8 16,.m 9 17]
 (.seq (.block 0 (.q [.m 19 9,.N 20 19,.m 21 20,.z 21 (.f 22 8 1),.z 21 (.l 23 22),.z 21 (.m 24 2),.z 21 (.b 25 .lss 23 24),.r 26 21 25,.m 18 26]
 (.cond 18 (.q [.i 6 0,.F 7]
 .ret) (.q [.f 28 8 1,.l 29 28,.m 30 2,.b 31 .gtr 29 30,.m 27 31]
 (.c 27 (.q [.i 6 1,.T 7]
 .ret))))))
 (.q [.f 32 8 2,.l 33 32,.m 6 33,.T 7]
 .ret)))⟩
theorem r_i_askedBefore {Te:TE} (c_i_MarkAt:C_i_MarkAt Te):C_i_askedBefore (RF Te x_i_askedBefore):=by
 intro n who seq hl
 refine X0 x_i_askedBefore.eq_1 ?_
 refine C0 (c_i_MarkAt n.S.T who hl) ?_
 cases g:markAt n.S.T.Marks who with
 | none =>
  try simp -implicitDefEqProofs (maxSteps:=1000000) only [go_sem,oldOf,Option.isSome_none]
  repeat refine ⟨sc,?_⟩
  try exact sf
  try rfl
 | some m =>
  cases g1:decide (m.Seq < seq)
  ·cases g2:decide (m.Seq > seq)
   ·have g3:(m.Seq==seq)=true:=by simp only [decide_eq_false_iff_not] at g1 g2; simp only [beq_iff_eq]; omega
    try simp -implicitDefEqProofs (maxSteps:=1000000) only [go_sem,oldOf,Option.isSome_some,g1,g2,g3]
    repeat refine ⟨sc,?_⟩
    try exact sf
    try rfl
   ·try simp -implicitDefEqProofs (maxSteps:=1000000) only [go_sem,oldOf,Option.isSome_some,g1,g2]
    repeat refine ⟨sc,?_⟩
    try exact sf
    try rfl
  ·have g2:decide (m.Seq > seq)=false:=by simp only [decide_eq_true_eq] at g1; exact decide_eq_false (by omega)
   have g3:(m.Seq==seq)=false:=by simp only [decide_eq_true_eq] at g1; simp only [beq_eq_false_iff_ne]; omega
   try simp -implicitDefEqProofs (maxSteps:=1000000) only [go_sem,oldOf,Option.isSome_some,g1,g2,g3]
   repeat refine ⟨sc,?_⟩
   try exact sf
   try rfl
def x_s_l15Old:FnX:=⟨49,[.tmp 6,.tmp 7],
  .q [.v 3 0,.i 6 0,.F 7]
 (.seq (.q [.L 10 10 3,.c 11 21 [10],.N 12 11,.m 13 12,.z 13 (.m 14 1),.z 13 (.op 15 (.call 42 [0,0,0] [(.t 14),(.i 1),(.i 9)])),.z 13 (.N 16 15),.r 17 13 16,.m 18 17,.z 18 (.m 19 2),.z 18 (.op 20 (.call 42 [0,0,0] [(.t 19),(.i 1),(.i 65535)])),.z 18 (.N 21 20),.r 22 18 21]
 (.c 22 (.q [.i 6 1,.T 7]
 .ret)))
 (.q [.f 24 3 0,.f 25 24 4,.L 26 3 25,.m 27 1,.c 28 86 [26,27],.m 23 28,.e 29 23 0,.e 30 23 1,.op 8 (.alloc [.i 0,.i 0,.i 0]),.s 100001 3 8 29,.m 9 30]
 (.seq (.block 0 (.q [.m 32 9,.m 33 32,.y 33 (.f 34 8 1),.y 33 (.l 35 34),.y 33 (.m 36 2),.y 33 (.b 37 .gtr 35 36),.a 38 33 37,.m 31 38]
 (.cond 31 (.q [.i 6 1,.T 7]
 .ret) (.q [.m 40 9,.m 41 40,.y 41 (.f 42 8 1),.y 41 (.l 43 42),.y 41 (.m 44 2),.y 41 (.b 45 .eql 43 44),.a 46 41 45,.m 39 46]
 (.c 39 (.q [.f 47 8 2,.l 48 47,.m 6 48,.T 7]
 .ret))))))
 (.q [.i 6 0,.F 7]
 .ret))))⟩
theorem r_s_l15Old {Te:TE} (c_s_l15Up:C_s_l15Up Te) (c_s_l1In:C_s_l1In Te) (c_s_MarkAt:C_s_MarkAt Te):C_s_l15Old (RF Te x_s_l15Old):=by
 intro n who seq h
 refine X0 x_s_l15Old.eq_1 ?_
 refine C0 (c_s_l15Up n h) ?_
 cases g1:n.up
 ·have e:n.old who seq=(1,true):=by rw [NodeV.old,g1]; rfl
  exact F1 e
 refine G0 ?_
 refine C0 (c_s_l1In _ _ _) ?_
 cases g2:win who 1 9
 ·have e:n.old who seq=(1,true):=by rw [NodeV.old,g1,g2]; rfl
  exact F1 e
 refine G0 ?_
 refine C0 (c_s_l1In _ _ _) ?_
 cases g3:win seq 1 65535
 ·have e:n.old who seq=(1,true):=by rw [NodeV.old,g1,g2,g3]; rfl
  exact F1 e
 have e:n.old who seq=oldOf (markAt n.S.T.Marks who) seq:=by rw [NodeV.old,g1,g2,g3]; rfl
 refine G0 ?_
 refine C0 (c_s_MarkAt n.S.T who h.2.2) ?_
 cases g:markAt n.S.T.Marks who with
 | none =>
  try simp -implicitDefEqProofs (maxSteps:=1000000) only [go_sem,e,g,oldOf,Option.isSome_none]
  repeat refine ⟨sc,?_⟩
  try exact sf
  try rfl
 | some m =>
  cases g4:decide (m.Seq > seq)
  ·cases g5:(m.Seq==seq)
   ·try simp -implicitDefEqProofs (maxSteps:=1000000) only [go_sem,e,g,oldOf,Option.isSome_some,g4,g5]
    repeat refine ⟨sc,?_⟩
    try exact sf
    try rfl
   ·try simp -implicitDefEqProofs (maxSteps:=1000000) only [go_sem,e,g,oldOf,Option.isSome_some,g4,g5]
    repeat refine ⟨sc,?_⟩
    try exact sf
    try rfl
  ·try simp -implicitDefEqProofs (maxSteps:=1000000) only [go_sem,e,g,oldOf,Option.isSome_some,g4]
   repeat refine ⟨sc,?_⟩
   try exact sf
   try rfl
def x_i_within:FnX:=⟨15,[.tmp 6],
  .q [.F 6]
 (.q [.m 7 0,.m 8 1,.b 9 .geq 7 8,.m 10 9,.y 10 (.m 11 0),.y 10 (.m 12 2),.y 10 (.b 13 .leq 11 12),.a 14 10 13,.m 6 14]
 .ret)⟩
theorem r_i_within {Te:TE}:C_i_within (RF Te x_i_within):=by
 intro n a b
 refine run0 ?_
 simp -implicitDefEqProofs (maxSteps:=1000000) only [x_i_within,go_sem]
 refine bif_cases (fun h=>?_) (fun h=>?_) <;> simp -implicitDefEqProofs (maxSteps:=1000000) only [h,go_sem,win]
def x_s_l1In:FnX:=⟨15,[.tmp 6],
  .q [.F 6]
 (.q [.m 7 0,.m 8 1,.b 9 .geq 7 8,.m 10 9,.y 10 (.m 11 0),.y 10 (.m 12 2),.y 10 (.b 13 .leq 11 12),.a 14 10 13,.m 6 14]
 .ret)⟩
theorem r_s_l1In {Te:TE}:C_s_l1In (RF Te x_s_l1In):=by
 intro n a b
 refine run0 ?_
 simp -implicitDefEqProofs (maxSteps:=1000000) only [x_s_l1In,go_sem]
 refine bif_cases (fun h=>?_) (fun h=>?_) <;> simp -implicitDefEqProofs (maxSteps:=1000000) only [h,go_sem,win]
def x_i_isWord:FnX:=⟨5,[.tmp 2],
  .q [.F 2]
 (.q [.m 3 0,.op 4 (.call 57 [0,0,0] [(.t 3),(.i 0),(.i 65535)]),.m 2 4]
 .ret)⟩
theorem r_i_isWord {Te:TE} (c_i_within:C_i_within Te):C_i_isWord (RF Te x_i_isWord):=by
 intro n
 refine run0 ?_
 simp -implicitDefEqProofs (maxSteps:=1000000) only [x_i_isWord,go_sem]
 exact D0 (c_i_within _ _ _)
def x_s_l1Word:FnX:=⟨5,[.tmp 2],
  .q [.F 2]
 (.q [.m 3 0,.op 4 (.call 42 [0,0,0] [(.t 3),(.i 0),(.i 65535)]),.m 2 4]
 .ret)⟩
theorem r_s_l1Word {Te:TE} (c_s_l1In:C_s_l1In Te):C_s_l1Word (RF Te x_s_l1Word):=by
 intro n
 refine run0 ?_
 simp -implicitDefEqProofs (maxSteps:=1000000) only [x_s_l1Word,go_sem]
 exact D0 (c_s_l1In _ _ _)
def x_i_MsgOk:FnX:=⟨50,[.tmp 2],
  .q [.v 1 0,.F 2]
 (.q [.f 3 1 0,.l 4 3,.op 5 (.call 57 [0,0,0] [(.t 4),(.i 1),(.i 9)]),.m 6 5,.y 6 (.f 7 1 1),.y 6 (.l 8 7),.y 6 (.op 9 (.call 57 [0,0,0] [(.t 8),(.i 0),(.i 4)])),.a 10 6 9,.m 11 10,.y 11 (.f 12 1 2),.y 11 (.l 13 12),.y 11 (.op 14 (.call 57 [0,0,0] [(.t 13),(.i 0),(.i 4)])),.a 15 11 14,.m 16 15,.y 16 (.f 17 1 1),.y 16 (.l 18 17),.y 16 (.f 19 1 2),.y 16 (.l 20 19),.y 16 (.b 21 .neq 18 20),.a 22 16 21,.m 23 22,.y 23 (.f 24 1 3),.y 23 (.l 25 24),.y 23 (.c 26 100 [25]),.a 27 23 26,.m 28 27,.y 28 (.f 29 1 4),.y 28 (.l 30 29),.y 28 (.op 31 (.slen (.t 30))),.y 28 (.B 32 .leq 31 60),.a 33 28 32,.m 34 33,.y 34 (.f 35 1 5),.y 34 (.l 36 35),.y 34 (.op 37 (.slen (.t 36))),.y 34 (.B 38 .leq 37 60),.a 39 34 38,.m 40 39,.y 40 (.f 41 1 6),.y 40 (.l 42 41),.y 40 (.op 43 (.call 57 [0,0,0] [(.t 42),(.i 0),(.i 255)])),.a 44 40 43,.m 45 44,.y 45 (.f 46 1 7),.y 45 (.l 47 46),.y 45 (.op 48 (.call 57 [0,0,0] [(.t 47),(.i 0),(.i 6)])),.a 49 45 48,.m 2 49]
 .ret)⟩
theorem r_i_MsgOk {Te:TE} (c_i_within:C_i_within Te) (c_i_isWord:C_i_isWord Te):C_i_MsgOk (RF Te x_i_MsgOk):=by
 intro m
 refine run0 ?_
 simp -implicitDefEqProofs (maxSteps:=1000000) only [x_i_MsgOk,go_sem,Msg.ok]
 refine .of (c_i_within _ _ _) ?_
 simp -implicitDefEqProofs (maxSteps:=1000000) only [go_sem]
 refine bif_cases (fun h1=>?_) (fun h1=>?_) <;> simp -implicitDefEqProofs (maxSteps:=1000000) only [h1,go_sem]
 refine .of (c_i_within _ _ _) ?_
 simp -implicitDefEqProofs (maxSteps:=1000000) only [go_sem]
 refine bif_cases (fun h2=>?_) (fun h2=>?_) <;> simp -implicitDefEqProofs (maxSteps:=1000000) only [h2,go_sem]
 refine .of (c_i_within _ _ _) ?_
 simp -implicitDefEqProofs (maxSteps:=1000000) only [go_sem]
 refine bif_cases (fun h3=>?_) (fun h3=>?_) <;> simp -implicitDefEqProofs (maxSteps:=1000000) only [h3,go_sem]
 refine bif_cases (fun h4=>?_) (fun h4=>?_) <;> simp -implicitDefEqProofs (maxSteps:=1000000) only [h4,go_sem]
 refine .of (c_i_isWord _) ?_
 simp -implicitDefEqProofs (maxSteps:=1000000) only [go_sem]
 refine bif_cases (fun h5=>?_) (fun h5=>?_) <;> simp -implicitDefEqProofs (maxSteps:=1000000) only [h5,go_sem]
 refine bif_cases (fun h6=>?_) (fun h6=>?_) <;> simp -implicitDefEqProofs (maxSteps:=1000000) only [h6,go_sem]
 refine bif_cases (fun h7=>?_) (fun h7=>?_) <;> simp -implicitDefEqProofs (maxSteps:=1000000) only [h7,go_sem]
 refine .of (c_i_within _ _ _) ?_
 simp -implicitDefEqProofs (maxSteps:=1000000) only [go_sem]
 refine bif_cases (fun h8=>?_) (fun h8=>?_) <;> simp -implicitDefEqProofs (maxSteps:=1000000) only [h8,go_sem]
 refine .of (c_i_within _ _ _) ?_
 try simp -implicitDefEqProofs (maxSteps:=1000000) only [go_sem,h1,h2,h3,h4,h5,h6,h7,h8]
 repeat refine ⟨sc,?_⟩
 try exact sf
def x_s_MsgOk:FnX:=⟨50,[.tmp 2],
  .q [.v 1 0,.F 2]
 (.q [.f 3 1 0,.l 4 3,.op 5 (.call 42 [0,0,0] [(.t 4),(.i 1),(.i 9)]),.m 6 5,.y 6 (.f 7 1 1),.y 6 (.l 8 7),.y 6 (.op 9 (.call 42 [0,0,0] [(.t 8),(.i 0),(.i 4)])),.a 10 6 9,.m 11 10,.y 11 (.f 12 1 2),.y 11 (.l 13 12),.y 11 (.op 14 (.call 42 [0,0,0] [(.t 13),(.i 0),(.i 4)])),.a 15 11 14,.m 16 15,.y 16 (.f 17 1 1),.y 16 (.l 18 17),.y 16 (.f 19 1 2),.y 16 (.l 20 19),.y 16 (.b 21 .neq 18 20),.a 22 16 21,.m 23 22,.y 23 (.f 24 1 3),.y 23 (.l 25 24),.y 23 (.c 26 43 [25]),.a 27 23 26,.m 28 27,.y 28 (.f 29 1 4),.y 28 (.l 30 29),.y 28 (.op 31 (.slen (.t 30))),.y 28 (.B 32 .leq 31 60),.a 33 28 32,.m 34 33,.y 34 (.f 35 1 5),.y 34 (.l 36 35),.y 34 (.op 37 (.slen (.t 36))),.y 34 (.B 38 .leq 37 60),.a 39 34 38,.m 40 39,.y 40 (.f 41 1 6),.y 40 (.l 42 41),.y 40 (.op 43 (.call 42 [0,0,0] [(.t 42),(.i 0),(.i 255)])),.a 44 40 43,.m 45 44,.y 45 (.f 46 1 7),.y 45 (.l 47 46),.y 45 (.op 48 (.call 42 [0,0,0] [(.t 47),(.i 0),(.i 6)])),.a 49 45 48,.m 2 49]
 .ret)⟩
theorem r_s_MsgOk {Te:TE} (c_s_l1In:C_s_l1In Te) (c_s_l1Word:C_s_l1Word Te):C_s_MsgOk (RF Te x_s_MsgOk):=by
 intro m
 refine run0 ?_
 simp -implicitDefEqProofs (maxSteps:=1000000) only [x_s_MsgOk,go_sem,Msg.ok]
 refine .of (c_s_l1In _ _ _) ?_
 simp -implicitDefEqProofs (maxSteps:=1000000) only [go_sem]
 refine bif_cases (fun h1=>?_) (fun h1=>?_) <;> simp -implicitDefEqProofs (maxSteps:=1000000) only [h1,go_sem]
 refine .of (c_s_l1In _ _ _) ?_
 simp -implicitDefEqProofs (maxSteps:=1000000) only [go_sem]
 refine bif_cases (fun h2=>?_) (fun h2=>?_) <;> simp -implicitDefEqProofs (maxSteps:=1000000) only [h2,go_sem]
 refine .of (c_s_l1In _ _ _) ?_
 simp -implicitDefEqProofs (maxSteps:=1000000) only [go_sem]
 refine bif_cases (fun h3=>?_) (fun h3=>?_) <;> simp -implicitDefEqProofs (maxSteps:=1000000) only [h3,go_sem]
 refine bif_cases (fun h4=>?_) (fun h4=>?_) <;> simp -implicitDefEqProofs (maxSteps:=1000000) only [h4,go_sem]
 refine .of (c_s_l1Word _) ?_
 simp -implicitDefEqProofs (maxSteps:=1000000) only [go_sem]
 refine bif_cases (fun h5=>?_) (fun h5=>?_) <;> simp -implicitDefEqProofs (maxSteps:=1000000) only [h5,go_sem]
 refine bif_cases (fun h6=>?_) (fun h6=>?_) <;> simp -implicitDefEqProofs (maxSteps:=1000000) only [h6,go_sem]
 refine bif_cases (fun h7=>?_) (fun h7=>?_) <;> simp -implicitDefEqProofs (maxSteps:=1000000) only [h7,go_sem]
 refine .of (c_s_l1In _ _ _) ?_
 simp -implicitDefEqProofs (maxSteps:=1000000) only [go_sem]
 refine bif_cases (fun h8=>?_) (fun h8=>?_) <;> simp -implicitDefEqProofs (maxSteps:=1000000) only [h8,go_sem]
 refine .of (c_s_l1In _ _ _) ?_
 try simp -implicitDefEqProofs (maxSteps:=1000000) only [go_sem,h1,h2,h3,h4,h5,h6,h7,h8]
 repeat refine ⟨sc,?_⟩
 try exact sf
def x_s_GetSign_1:XCode:=.seq (.q [.i 9 1]
 (.block 0 (.loop [0,1,7,8,9] (.seq (.q [.m 43 9,.m 44 7,.b 45 .lss 43 44]
 (.cond 45 .skip (.exit 0)))
 (.seq (.block 1 (.seq (.q [.m 48 0,.m 49 1,.m 50 9,.b 51 .add 49 50,.x 52 1 48 51,.l 53 52,.op 54 (.bin .and (.t 53) (.k (.one (.pv (.int .u8 192))))),.op 55 (.bin .neq (.t 54) (.k (.one (.pv (.int .u8 128)))))]
 (.c 55 (.q [.i 4 0,.i 5 0,.F 6]
 .ret)))
 (.reg [.m 56 8,.op 57 (.bin .shl (.t 56) (.k (.one (.pv (.int .u64 6))))),.m 58 0,.m 59 1,.m 60 9,.b 61 .add 59 60,.x 62 1 58 61,.l 63 62,.op 64 (.bin .and (.t 63) (.k (.one (.pv (.int .u8 63))))),.op 65 (.conv (.int .i64) (.t 64)),.b 66 .or 57 65,.m 8 66])))
 (.reg [.m 46 9,.B 47 .add 46 1,.m 9 47]))))))
 (.norm [0,1,7,8] (.seq (.seq (.draw [.m 67 8,.c 68 247 [67],.N 69 68,.m 70 69,.z 70 (.op 71 (.bslice 1 [])),.z 70 (.m 72 8),.z 70 (.c 73 233 [71,72]),.z 70 (.op 74 (.conv .b2s (.t 73))),.z 70 (.m 75 0),.z 70 (.m 76 1),.z 70 (.m 77 1),.z 70 (.m 78 7),.z 70 (.b 79 .add 77 78),.z 70 (.op 80 (.slice 1 (.t 75) (some (.t 76)) (some (.t 79)))),.z 70 (.op 81 (.conv .b2s (.t 80))),.z 70 (.b 82 .neq 74 81),.r 83 70 82] [[],[0],[1],[2,1],[3],[3],[4,5,3,3],[6,3],[3],[3],[3],[3],[10,11,3],[8,9,12,3],[13,3],[7,14,3],[3,15]])
 (.c 83 (.q [.i 4 0,.i 5 0,.F 6]
 .ret)))
 (.q [.m 84 8,.m 85 1,.m 86 7,.b 87 .add 85 86,.m 4 84,.m 5 87,.T 6]
 .ret)))
def x_s_GetSign:FnX:=⟨88,[.tmp 4,.tmp 5,.tmp 6],
  .q [.i 4 0,.i 5 0,.F 6]
 (.seq (.q [.m 10 1,.m 11 0,.n 12 11,.B 13 .sub 12 1,.op 14 (.call 42 [0,0,0] [(.t 10),(.i 0),(.t 13)]),.N 15 14]
 (.c 15 (.q [.i 4 0,.i 5 0,.F 6]
 .ret)))
 (.q [.m 16 0,.m 17 1,.x 18 1 16 17,.l 19 18,.c 20 254 [19],.m 7 20]
 (.seq (.q [.m 21 7,.B 22 .eql 21 0,.m 23 22,.z 23 (.m 24 7),.z 23 (.m 25 0),.z 23 (.n 26 25),.z 23 (.m 27 1),.z 23 (.b 28 .sub 26 27),.z 23 (.b 29 .gtr 24 28),.r 30 23 29]
 (.c 30 (.q [.i 4 0,.i 5 0,.F 6]
 .ret)))
 (.q [.m 31 0,.m 32 1,.x 33 1 31 32,.l 34 33,.op 35 (.conv (.int .i64) (.t 34)),.m 8 35]
 (.seq (.q [.m 36 7,.B 37 .gtr 36 1]
 (.c 37 (.reg [.m 38 8,.m 39 7,.op 40 (.conv (.int .u64) (.t 39)),.op 41 (.bin .shr (.i 127) (.t 40)),.b 42 .and 38 41,.m 8 42])))
 (.norm [0,1,7,8] (x_s_GetSign_1)))))))⟩
theorem s_GetSign_tail {Te:Nat→List AV→Res→Prop} (c_S:C_s_SignOk Te) (c_P:C_s_PutSign Te) (b:List UInt8) (k K m:Nat) (hb:b.length≤2 ^ 30) (hK:1≤K∧K≤4∧k + K≤b.length) (hm:m < 256) :
  runC Te 2 90 x_s_GetSign_1 ⟨[(0,.one (.ro 1 (b.map uR))),(1,.one (.pv (.int .i64 (k:Int)))),(7,.one (.pv (.int .i64 (K:Int)))),(8,.one (.pv (.int .i64 (m:Int))))],[],[(0,[slT false 1 uR b]),(1,[iT k])]⟩
   (EndFn Te [.one (slT false 1 uR b),.one (iT k)] [.tmp 4,.tmp 5,.tmp 6] ⟨[.one (iT (signTail (b.drop k) k K m).1),.one (iT (signTail (b.drop k) k K m).2.1),.one (bT (signTail (b.drop k) k K m).2.2)],[[slT false 1 uR b],[iT k]]⟩):=by
 simp -implicitDefEqProofs (maxSteps:=1000000) only [x_s_GetSign_1,go_sem]
 refine loop_of (σ:=Nat) (fun j=>⟨[(0,.one (.ro 1 (b.map uR))),(1,.one (.pv (.int .i64 (k:Int)))),(7,.one (.pv (.int .i64 (K:Int)))),(8,.one (.pv (.int .i64 ((accN (b.drop k) m j:Nat):Int)))),(9,.one (.pv (.int .i64 ((j + 1:Nat):Int))))],[],[(0,[slT false 1 uR b]),(1,[iT k])]⟩) (fun j=>j + 1≤K∧contB (b.drop k) j=true) (fun j=>K - j) 0 ?_ ⟨hK.1,rfl⟩ ?_
 ·simp -implicitDefEqProofs (maxSteps:=1000000) only [go_sem]; rfl
 ·rintro j ⟨hj,hc⟩
  have hacc:=accN_small (b.drop k) hm (show j≤3 by omega)
  cases q:decide (((j + 1:Nat):Int) < (K:Int))
  ·have hjK:j=K - 1:=by simp only [decide_eq_false_iff_not] at q; omega
   subst hjK
   refine G1 q ?_
   refine C0 (c_S _) ?_
   cases h1:signOk ((accN (b.drop k) m (K - 1):Nat):Int)
   ·have e:=tail_no (l:=b.drop k) (i:=k) (K:=K) (m:=m) (by rw [h1,Bool.and_false,Bool.false_and])
    exact F1 e
   ·have e1:IntKind.i64.wrap ((k:Int) + (K:Int))=((k + K:Nat):Int):=by rw [IntWalk.i64_in _ (by omega)]; rfl
    have e2:k≤k + K:=Nat.le_add_right _ _
    have e3:List.take (k + K - k) (List.drop k (b.map uR))=((b.drop k).take K).map uR:=by rw [← List.map_drop,← List.map_take,Nat.add_sub_cancel_left]
    have e4:decide (k + K≤b.length)=true:=decide_eq_true hK.2.2
    refine G0 ?_
    refine .of (c_P [] _ (by decide)) ?_
    try simp -implicitDefEqProofs (maxSteps:=1000000) only [go_sem,e1,e3,take_map,bytesOf_uR,areBytes_uR,wholeLL_map]
    repeat refine ⟨sc,?_⟩
    try exact sf
    have ep:putSign [] ((accN (b.drop k) m (K - 1):Nat):Int)=enc8 (accN (b.drop k) m (K - 1)):=by simp only [putSign,h1,if_true,Int.toNat_natCast,List.nil_append]
    have ed:decide ((⟨(enc8 (accN (b.drop k) m (K - 1))).toArray⟩:ByteArray)=⟨((b.drop k).take K).toArray⟩)=decide (enc8 (accN (b.drop k) m (K - 1))=(b.drop k).take K):=by
     congr 1
     simp
    cases h2:decide (enc8 (accN (b.drop k) m (K - 1))=(b.drop k).take K)
    ·have e:=tail_no (l:=b.drop k) (i:=k) (K:=K) (m:=m) (by rw [h2,Bool.and_false])
     exact F4 ep ed h2 e
    ·have e:signTail (b.drop k) k K m=(((accN (b.drop k) m (K - 1):Nat):Int),(k:Int) + (K:Nat),true):=if_pos (by rw [hc,h1,h2]; rfl)
     exact F4 ep ed h2 e
  ·have hjK:j + 1 < K:=by simp only [decide_eq_true_eq] at q; omega
   have hidx:k + (j + 1) < b.length:=by omega
   have e1:IntKind.i64.wrap ((k:Int) + ((j + 1:Nat):Int))=((k + (j + 1):Nat):Int):=by rw [IntWalk.i64_in _ (by omega)]; rfl
   have eb:b[k + (j + 1)].toNat=byteN (b.drop k) (j + 1):=by
    simp only [byteN,List.getD_eq_getElem?_getD,List.getElem?_drop]
    rw [List.getElem?_eq_getElem hidx]
    rfl
   have hlt:=byteN_lt (b.drop k) (j + 1)
   have e2:=and192 (byteN (b.drop k) (j + 1)) hlt
   try simp -implicitDefEqProofs (maxSteps:=1000000) only [go_sem,q,e1,List.getElem?_eq_getElem hidx,eb,e2]
   repeat refine ⟨sc,?_⟩
   try exact sf
   cases h3:(byteN (b.drop k) (j + 1) / 64==2)
   ·have hno:contB (b.drop k) (K - 1)=false:=contB_down _ (show j + 1≤K - 1 by omega) (by simp only [contB,h3,Bool.and_false])
    have e:=tail_no (l:=b.drop k) (i:=k) (K:=K) (m:=m) (by rw [hno,Bool.false_and,Bool.false_and])
    exact F1 e
   ·have e4:IntKind.i64.wrap (((accN (b.drop k) m j:Nat):Int) * 2 ^ 6)=((accN (b.drop k) m j * 64:Nat):Int):=by rw [IntWalk.i64_in _ (by omega)]; omega
    have e5:=and8 (byteN (b.drop k) (j + 1)) hlt
    have e6:IntKind.i64.wrap ((byteN (b.drop k) (j + 1) % 64:Nat):Int)=((byteN (b.drop k) (j + 1) % 64:Nat):Int):=IntWalk.i64_in _ (by omega)
    have e7:=or_acc (accN (b.drop k) m j) (byteN (b.drop k) (j + 1) % 64) (by omega) (by omega)
    try simp -implicitDefEqProofs (maxSteps:=1000000) only [go_sem,show Nat.min 6 64=6 from rfl,e1,List.getElem?_eq_getElem hidx,eb,e4,e5,e6,e7]
    repeat refine ⟨sc,?_⟩
    try exact sf
    exact ⟨j + 1,by rw [IntWalk.i64_in _ (by omega)]; rfl,⟨hjK,by simp only [contB,hc,h3,Bool.and_true]⟩,by omega⟩
theorem r_s_GetSign {Te:TE} (c_s_l1In:C_s_l1In Te) (c_s_l2Len:C_s_l2Len Te) (c_s_SignOk:C_s_SignOk Te) (c_s_PutSign:C_s_PutSign Te):C_s_GetSign (RF Te x_s_GetSign):=by
 intro b i hb
 by_cases hi:0≤i∧i < b.length
 ·obtain ⟨k,rfl⟩:∃ k:Nat,i=k:=⟨i.toNat,by omega⟩
  have hk:k < b.length:=by omega
  have hk':((k:Int)).toNat < b.length:=by omega
  have hld:(b.drop k).length=b.length - k:=List.length_drop
  have w1:IntKind.i64.wrap ((b.length:Int) - 1)=(b.length:Int) - 1:=IntWalk.i64_in _ (by omega)
  have w2:IntKind.i64.wrap ((b.length:Int) - (k:Int))=(b.length:Int) - (k:Int):=IntWalk.i64_in _ (by omega)
  have g:win (k:Int) 0 ((b.length:Int) - 1)=true:=by simp only [win,Bool.and_eq_true,decide_eq_true_eq]; omega
  have eb:b[k].toNat=byteN (b.drop k) 0:=by
   simp only [byteN,List.getD_eq_getElem?_getD,List.getElem?_drop,Nat.add_zero]
   rw [List.getElem?_eq_getElem hk]
   rfl
  have hlt:=byteN_lt (b.drop k) 0
  have w3:IntKind.i64.wrap ((byteN (b.drop k) 0:Nat):Int)=(byteN (b.drop k) 0:Nat):=IntWalk.i64_in _ (by omega)
  refine X1 x_s_GetSign.eq_1 w1 ?_
  refine C2 (c_s_l1In _ _ _) g (List.getElem?_eq_getElem hk) ?_
  refine C2 (c_s_l2Len _) eb w2 ?_
  have bad:(l2len (byteN (b.drop k) 0)=0∨(b.drop k).length < l2len (byteN (b.drop k) 0))→getSign b k=(0,0,false):=fun h=>getSign_bad hi (by rw [Int.toNat_natCast]; exact sign0 h (by omega))
  cases q0:(((l2len (byteN (b.drop k) 0):Nat):Int)==0)
  ·cases q1:decide (((l2len (byteN (b.drop k) 0):Nat):Int) > (b.length:Int) - (k:Int))
   ·have hK0:l2len (byteN (b.drop k) 0)≠0:=by
     intro e
     rw [e] at q0
     cases q0
    have hKl:l2len (byteN (b.drop k) 0)≤(b.drop k).length:=by simp only [decide_eq_false_iff_not] at q1; omega
    have tail:∀ K m:Nat,1≤K∧K≤4∧k + K≤b.length→m < 256→_:=fun K m h1 h2=>s_GetSign_tail c_s_SignOk c_s_PutSign b k K m hb h1 h2
    have eg:getSign b (k:Int)=getTail (b.drop k) k:=by
     cases hs:signAt (b.drop k) with
     | none=>rw [getTail_none hs,getSign_bad hi (by rw [Int.toNat_natCast]; exact hs)]
     | some d=>rw [getTail_some hs,getSign_good hi (by rw [Int.toNat_natCast]; exact hs)]
    rcases l2len_in _ hK0 with ⟨hK,hv⟩ | ⟨hK,hv⟩ | ⟨hK,hv⟩ | ⟨hK,hv⟩
    ·rw [hK] at hKl q0 q1
     have ek:decide (((1:Nat):Int) > 1)=false:=by decide
     rw [eg,tail1 (l:=b.drop k) (k:Int) (by omega) hv]
     simp -implicitDefEqProofs (maxSteps:=1000000) only [go_sem,hK,q0,q1,w2,w3,List.getElem?_eq_getElem hk,eb,ek]
     exact tail 1 (byteN (b.drop k) 0) (by omega) (by omega)
    ·rw [hK] at hKl q0 q1
     have ek:decide (((2:Nat):Int) > 1)=true:=by decide
     rw [eg,tail2 (l:=b.drop k) (k:Int) (by omega) hv]
     have em:andK .i64 ((byteN (b.drop k) 0:Nat):Int) ((31:Nat):Int)=((byteN (b.drop k) 0 % 32:Nat):Int):=and_mask _ 5 hlt (by decide)
     have ew:IntKind.u64.wrap ((2:Nat):Int)=((2:Nat):Int):=by decide
     have ef:Int.fdiv 127 (2 ^ Nat.min 2 64)=((31:Nat):Int):=by decide
     simp -implicitDefEqProofs (maxSteps:=1000000) only [go_sem,hK,q0,q1,w2,w3,List.getElem?_eq_getElem hk,eb,ek,ew,ef,em]
     exact tail 2 (byteN (b.drop k) 0 % 32) (by omega) (by omega)
    ·rw [hK] at hKl q0 q1
     have ek:decide (((3:Nat):Int) > 1)=true:=by decide
     rw [eg,tail3 (l:=b.drop k) (k:Int) (by omega) hv]
     have em:andK .i64 ((byteN (b.drop k) 0:Nat):Int) ((15:Nat):Int)=((byteN (b.drop k) 0 % 16:Nat):Int):=and_mask _ 4 hlt (by decide)
     have ew:IntKind.u64.wrap ((3:Nat):Int)=((3:Nat):Int):=by decide
     have ef:Int.fdiv 127 (2 ^ Nat.min 3 64)=((15:Nat):Int):=by decide
     simp -implicitDefEqProofs (maxSteps:=1000000) only [go_sem,hK,q0,q1,w2,w3,List.getElem?_eq_getElem hk,eb,ek,ew,ef,em]
     exact tail 3 (byteN (b.drop k) 0 % 16) (by omega) (by omega)
    ·rw [hK] at hKl q0 q1
     have ek:decide (((4:Nat):Int) > 1)=true:=by decide
     rw [eg,tail4 (l:=b.drop k) (k:Int) (by omega) hv]
     have em:andK .i64 ((byteN (b.drop k) 0:Nat):Int) ((7:Nat):Int)=((byteN (b.drop k) 0 % 8:Nat):Int):=and_mask _ 3 hlt (by decide)
     have ew:IntKind.u64.wrap ((4:Nat):Int)=((4:Nat):Int):=by decide
     have ef:Int.fdiv 127 (2 ^ Nat.min 4 64)=((7:Nat):Int):=by decide
     simp -implicitDefEqProofs (maxSteps:=1000000) only [go_sem,hK,q0,q1,w2,w3,List.getElem?_eq_getElem hk,eb,ek,ew,ef,em]
     exact tail 4 (byteN (b.drop k) 0 % 8) (by omega) (by omega)
   ·have e:=bad (.inr (by simp only [decide_eq_true_eq] at q1; omega))
    exact F4 q0 q1 w2 e
  ·have e:=bad (.inl (by have:=eq_of_beq q0; omega))
   exact F2 q0 e
 ·have e:=getSign_no hi
  have w1:IntKind.i64.wrap ((b.length:Int) - 1)=(b.length:Int) - 1:=IntWalk.i64_in _ (by omega)
  have g:win i 0 ((b.length:Int) - 1)=false:=by
   simp only [win,Bool.and_eq_false_imp,decide_eq_true_eq,decide_eq_false_iff_not]
   omega
  refine X1 x_s_GetSign.eq_1 w1 ?_
  exact D2 (c_s_l1In _ _ _) g e
def x_i_NextOk:FnX:=⟨27,[.tmp 4],
  .q [.F 4]
 (.seq (.block 0 (.q [.m 6 0,.op 7 (.call 57 [0,0,0] [(.t 6),(.i 0),(.i 4)]),.m 8 7,.y 8 (.m 9 1),.y 8 (.m 10 0),.y 8 (.B 11 .add 10 1),.y 8 (.b 12 .eql 9 11),.a 13 8 12,.m 5 13]
 (.cond 5 (.q [.T 4]
 .ret) (.q [.m 15 0,.op 16 (.call 57 [0,0,0] [(.t 15),(.i 0),(.i 3)]),.m 17 16,.y 17 (.m 18 1),.y 17 (.B 19 .eql 18 6),.a 20 17 19,.m 14 20]
 (.c 14 (.q [.T 4]
 .ret))))))
 (.q [.m 21 0,.B 22 .eql 21 6,.m 23 22,.y 23 (.m 24 1),.y 23 (.B 25 .eql 24 7),.a 26 23 25,.m 4 26]
 .ret))⟩
theorem r_i_NextOk {Te:TE} (c_i_within:C_i_within Te):C_i_NextOk (RF Te x_i_NextOk):=by
 intro a b
 refine run0 ?_
 simp -implicitDefEqProofs (maxSteps:=1000000) only [x_i_NextOk,go_sem,nextOk]
 repeat refine ⟨sc,?_⟩
 try exact sf
 refine C0 (c_i_within _ _ _) ?_
 cases g1:win a 0 4
 ·refine G0 ?_
  refine C0 (c_i_within _ _ _) ?_
  cases g2:win a 0 3
  ·refine G0 ?_
   refine bif_cases (fun h=>?_) (fun h=>?_) <;> simp -implicitDefEqProofs (maxSteps:=1000000) only [h,go_sem]
  ·refine G0 ?_
   refine ⟨fun k=>?_,fun k=>?_⟩
   ·exact F1 k
   ·refine G1 k ?_
    refine bif_cases (fun h=>?_) (fun h=>?_) <;> simp -implicitDefEqProofs (maxSteps:=1000000) only [h,k,go_sem]
 ·refine G0 ?_
  refine ⟨fun j=>?_,fun j=>?_⟩
  ·exact F1 j
  ·refine G1 j ?_
   refine C0 (c_i_within _ _ _) ?_
   cases g2:win a 0 3
   ·refine G0 ?_
    refine bif_cases (fun h=>?_) (fun h=>?_) <;> simp -implicitDefEqProofs (maxSteps:=1000000) only [h,j,go_sem]
   ·refine G0 ?_
    refine ⟨fun k=>?_,fun k=>?_⟩
    ·exact F2 k j
    ·refine G1 k ?_
     refine bif_cases (fun h=>?_) (fun h=>?_) <;> simp -implicitDefEqProofs (maxSteps:=1000000) only [h,k,j,go_sem]
def x_s_NextOk:FnX:=⟨27,[.tmp 4],
  .q [.F 4]
 (.seq (.block 0 (.q [.m 6 0,.op 7 (.call 42 [0,0,0] [(.t 6),(.i 0),(.i 4)]),.m 8 7,.y 8 (.m 9 1),.y 8 (.m 10 0),.y 8 (.B 11 .add 10 1),.y 8 (.b 12 .eql 9 11),.a 13 8 12,.m 5 13]
 (.cond 5 (.q [.T 4]
 .ret) (.q [.m 15 0,.op 16 (.call 42 [0,0,0] [(.t 15),(.i 0),(.i 3)]),.m 17 16,.y 17 (.m 18 1),.y 17 (.B 19 .eql 18 6),.a 20 17 19,.m 14 20]
 (.c 14 (.q [.T 4]
 .ret))))))
 (.q [.m 21 0,.B 22 .eql 21 6,.m 23 22,.y 23 (.m 24 1),.y 23 (.B 25 .eql 24 7),.a 26 23 25,.m 4 26]
 .ret))⟩
theorem r_s_NextOk {Te:TE} (c_s_l1In:C_s_l1In Te):C_s_NextOk (RF Te x_s_NextOk):=by
 intro a b
 refine run0 ?_
 simp -implicitDefEqProofs (maxSteps:=1000000) only [x_s_NextOk,go_sem,nextOk]
 repeat refine ⟨sc,?_⟩
 try exact sf
 refine C0 (c_s_l1In _ _ _) ?_
 cases g1:win a 0 4
 ·refine G0 ?_
  refine C0 (c_s_l1In _ _ _) ?_
  cases g2:win a 0 3
  ·refine G0 ?_
   refine bif_cases (fun h=>?_) (fun h=>?_) <;> simp -implicitDefEqProofs (maxSteps:=1000000) only [h,go_sem]
  ·refine G0 ?_
   refine ⟨fun k=>?_,fun k=>?_⟩
   ·exact F1 k
   ·refine G1 k ?_
    refine bif_cases (fun h=>?_) (fun h=>?_) <;> simp -implicitDefEqProofs (maxSteps:=1000000) only [h,k,go_sem]
 ·refine G0 ?_
  refine ⟨fun j=>?_,fun j=>?_⟩
  ·exact F1 j
  ·refine G1 j ?_
   refine C0 (c_s_l1In _ _ _) ?_
   cases g2:win a 0 3
   ·refine G0 ?_
    refine bif_cases (fun h=>?_) (fun h=>?_) <;> simp -implicitDefEqProofs (maxSteps:=1000000) only [h,j,go_sem]
   ·refine G0 ?_
    refine ⟨fun k=>?_,fun k=>?_⟩
    ·exact F2 k j
    ·refine G1 k ?_
     refine bif_cases (fun h=>?_) (fun h=>?_) <;> simp -implicitDefEqProofs (maxSteps:=1000000) only [h,k,j,go_sem]
def x_l_markMsgS_7:XCode:=.q [.m 63 0,.m 64 5,.m 65 1,.x 66 8 63 64,.f 67 66 7,.s 100008 1 67 65]
 (.reg [.m 68 1,.B 69 .add 68 1,.m 1 69])
def x_l_markMsgS_6:XCode:=.q [.m 56 0,.m 57 5,.m 58 1,.x 59 8 56 57,.f 60 59 6,.s 100007 1 60 58]
 (.q [.m 61 1,.B 62 .add 61 1,.m 1 62]
 x_l_markMsgS_7)
def x_l_markMsgS_5:XCode:=.q [.m 48 0,.m 49 5,.m 50 1,.c 51 38 [50],.x 52 8 48 49,.f 53 52 5,.s 100006 1 53 51]
 (.q [.m 54 1,.B 55 .add 54 1,.m 1 55]
 x_l_markMsgS_6)
def x_l_markMsgS_4:XCode:=.q [.m 40 0,.m 41 5,.m 42 1,.c 43 38 [42],.x 44 8 40 41,.f 45 44 4,.s 100005 1 45 43]
 (.q [.m 46 1,.B 47 .add 46 1,.m 1 47]
 x_l_markMsgS_5)
def x_l_markMsgS_3:XCode:=.q [.m 33 0,.m 34 5,.m 35 1,.x 36 8 33 34,.f 37 36 3,.s 100004 1 37 35]
 (.q [.m 38 1,.B 39 .add 38 1,.m 1 39]
 x_l_markMsgS_4)
def x_l_markMsgS_2:XCode:=.q [.m 26 0,.m 27 5,.m 28 1,.x 29 8 26 27,.f 30 29 2,.s 100003 1 30 28]
 (.q [.m 31 1,.B 32 .add 31 1,.m 1 32]
 x_l_markMsgS_3)
def x_l_markMsgS_1:XCode:=.q [.m 19 0,.m 20 5,.m 21 1,.x 22 8 19 20,.f 23 22 1,.s 100002 1 23 21]
 (.q [.m 24 1,.B 25 .add 24 1,.m 1 25]
 x_l_markMsgS_2)
def x_l_markMsgS:FnX:=⟨71,[.tmp 4],
  .q [.i 4 0]
 (.seq (.q [.i 5 0]
 (.block 0 (.loop [0,1,5] (.seq (.q [.m 6 5,.m 7 0,.n 8 7,.b 9 .lss 6 8]
 (.cond 9 .skip (.exit 0)))
 (.seq (.block 1 (.q [.m 12 0,.m 13 5,.m 14 1,.x 15 8 12 13,.f 16 15 0,.s 100001 1 16 14]
 (.q [.m 17 1,.B 18 .add 17 1,.m 1 18]
 x_l_markMsgS_1)))
 (.reg [.m 10 5,.B 11 .add 10 1,.m 5 11]))))))
 (.norm [1] (.q [.m 70 1,.m 4 70]
 .ret)))⟩
theorem r_l_markMsgS {Te:TE} (c_l_markText:C_l_markText Te):C_l_markMsgS (RF Te x_l_markMsgS):=by
 intro l k hl hk
 refine run0 ?_
 simp -implicitDefEqProofs (maxSteps:=1000000) (disch:=omega) only [x_l_markMsgS,go_sem,IntWalk.i64_in]
 refine loop_of (σ:=Nat) (fun i=>⟨[(0,.one (.rf 0 0 [] 8 0 l.length)),(1,.one (.pv (.int .i64 (k + (8 * i:Nat))))),(5,.one (.pv (.int .i64 i)))],[],[(0,[.sl true 8 () ((marks 8 mkMsg i k).map Msg.row++(l.drop i).map Msg.row)]),(1,[iT k])]⟩) (fun i=>i≤l.length) (fun i=>l.length - i) 0 ?_ (Nat.zero_le _) ?_
 ·simp -implicitDefEqProofs (maxSteps:=1000000) only [go_sem]; simp [marks]
 ·intro i hi
  simp -implicitDefEqProofs (maxSteps:=1000000) only [go_sem]
  refine ⟨fun h=>?_,fun h=>?_⟩
  ·have hi':i < l.length:=by simp only [decide_eq_true_eq] at h; omega
   try simp -implicitDefEqProofs (maxSteps:=1000000) (disch:=omega) only [go_sem,storeAp,setCells,List.length_set,List.set_set,mark_len Msg.row 8 mkMsg l k hi,List.getD_eq_getElem?_getD,mark_get Msg.row 8 mkMsg l k hi',mark_reget Msg.row 8 mkMsg l k hi',Option.getD_some,IntWalk.i64_in]
   repeat (first | refine ⟨by decide,?_⟩ | refine ⟨decide_eq_true hi',?_⟩)
   simp -implicitDefEqProofs (maxSteps:=1000000) (disch:=omega) only [x_l_markMsgS_1,go_sem,storeAp,setCells,List.length_set,List.set_set,mark_len Msg.row 8 mkMsg l k hi,List.getD_eq_getElem?_getD,mark_get Msg.row 8 mkMsg l k hi',mark_reget Msg.row 8 mkMsg l k hi',Option.getD_some,IntWalk.i64_in]
   repeat (first | refine ⟨by decide,?_⟩ | refine ⟨decide_eq_true hi',?_⟩)
   simp -implicitDefEqProofs (maxSteps:=1000000) (disch:=omega) only [x_l_markMsgS_2,go_sem,storeAp,setCells,List.length_set,List.set_set,mark_len Msg.row 8 mkMsg l k hi,List.getD_eq_getElem?_getD,mark_get Msg.row 8 mkMsg l k hi',mark_reget Msg.row 8 mkMsg l k hi',Option.getD_some,IntWalk.i64_in]
   repeat (first | refine ⟨by decide,?_⟩ | refine ⟨decide_eq_true hi',?_⟩)
   simp -implicitDefEqProofs (maxSteps:=1000000) (disch:=omega) only [x_l_markMsgS_3,go_sem,storeAp,setCells,List.length_set,List.set_set,mark_len Msg.row 8 mkMsg l k hi,List.getD_eq_getElem?_getD,mark_get Msg.row 8 mkMsg l k hi',mark_reget Msg.row 8 mkMsg l k hi',Option.getD_some,IntWalk.i64_in]
   repeat (first | refine ⟨by decide,?_⟩ | refine ⟨decide_eq_true hi',?_⟩)
   simp -implicitDefEqProofs (maxSteps:=1000000) (disch:=omega) only [x_l_markMsgS_4,go_sem,storeAp,setCells,List.length_set,List.set_set,mark_len Msg.row 8 mkMsg l k hi,List.getD_eq_getElem?_getD,mark_get Msg.row 8 mkMsg l k hi',mark_reget Msg.row 8 mkMsg l k hi',Option.getD_some,IntWalk.i64_in]
   repeat (first | refine ⟨by decide,?_⟩ | refine ⟨decide_eq_true hi',?_⟩)
   refine .of (c_l_markText _ (by omega)) ?_
   simp -implicitDefEqProofs (maxSteps:=1000000) (disch:=omega) only [go_sem,storeAp,setCells,List.length_set,List.set_set,mark_len Msg.row 8 mkMsg l k hi,List.getD_eq_getElem?_getD,mark_get Msg.row 8 mkMsg l k hi',mark_reget Msg.row 8 mkMsg l k hi',Option.getD_some,IntWalk.i64_in]
   repeat (first | refine ⟨by decide,?_⟩ | refine ⟨decide_eq_true hi',?_⟩)
   simp -implicitDefEqProofs (maxSteps:=1000000) (disch:=omega) only [x_l_markMsgS_5,go_sem,storeAp,setCells,List.length_set,List.set_set,mark_len Msg.row 8 mkMsg l k hi,List.getD_eq_getElem?_getD,mark_get Msg.row 8 mkMsg l k hi',mark_reget Msg.row 8 mkMsg l k hi',Option.getD_some,IntWalk.i64_in]
   repeat (first | refine ⟨by decide,?_⟩ | refine ⟨decide_eq_true hi',?_⟩)
   refine .of (c_l_markText _ (by omega)) ?_
   simp -implicitDefEqProofs (maxSteps:=1000000) (disch:=omega) only [go_sem,storeAp,setCells,List.length_set,List.set_set,mark_len Msg.row 8 mkMsg l k hi,List.getD_eq_getElem?_getD,mark_get Msg.row 8 mkMsg l k hi',mark_reget Msg.row 8 mkMsg l k hi',Option.getD_some,IntWalk.i64_in]
   repeat (first | refine ⟨by decide,?_⟩ | refine ⟨decide_eq_true hi',?_⟩)
   simp -implicitDefEqProofs (maxSteps:=1000000) (disch:=omega) only [x_l_markMsgS_6,go_sem,storeAp,setCells,List.length_set,List.set_set,mark_len Msg.row 8 mkMsg l k hi,List.getD_eq_getElem?_getD,mark_get Msg.row 8 mkMsg l k hi',mark_reget Msg.row 8 mkMsg l k hi',Option.getD_some,IntWalk.i64_in]
   repeat (first | refine ⟨by decide,?_⟩ | refine ⟨decide_eq_true hi',?_⟩)
   simp -implicitDefEqProofs (maxSteps:=1000000) (disch:=omega) only [x_l_markMsgS_7,go_sem,storeAp,setCells,List.length_set,List.set_set,mark_len Msg.row 8 mkMsg l k hi,List.getD_eq_getElem?_getD,mark_get Msg.row 8 mkMsg l k hi',mark_reget Msg.row 8 mkMsg l k hi',Option.getD_some,IntWalk.i64_in]
   repeat (first | refine ⟨by decide,?_⟩ | refine ⟨decide_eq_true hi',?_⟩)
   refine ⟨i + 1,?_,hi',by omega⟩
   rw [← mark_set Msg.row 8 mkMsg l k hi',show k + ((8 * (i + 1):Nat):Int)=k + (8 * i:Nat) + 1 + 1 + 1 + 1 + 1 + 1 + 1 + 1 by omega]
   rfl
  ·have:i=l.length:=by simp only [decide_eq_false_iff_not] at h; omega
   subst this
   simp -implicitDefEqProofs (maxSteps:=1000000) only [go_sem,mark_end]
def x_z_DeleteFuncimplApply1:FnX:=⟨42,[.tmp 4],
  .q [.op 4 (.mv (.k (.one (.nils 7))))]
 (.q [.m 8 0,.m 9 1,.op 10 (.vcall 102 203 [0,15] [(.t 8)] (.t 9)),.m 5 10]
 (.seq (.q [.m 11 5,.B 12 .eql 11 (-1)]
 (.c 12 (.q [.m 13 0,.m 4 13]
 .ret)))
 (.seq (.q [.m 14 5,.B 15 .add 14 1,.m 6 15]
 (.block 0 (.loop [0,1,5,6] (.seq (.q [.m 16 6,.m 17 0,.n 18 17,.b 19 .lss 16 18]
 (.cond 19 .skip (.exit 0)))
 (.seq (.block 1 (.q [.m 22 0,.m 23 6,.x 24 7 22 23,.L 25 7 24,.op 7 (.alloc [.e,.i 0,.nils 1,.i 0,.nils 1,.i 0,.F]),.s 100001 7 7 25]
 (.q [.m 26 1,.L 27 7 7,.op 28 (.dcall 203 [0,15] [(.t 27)] (.t 26)),.N 29 28]
 (.c 29 (.q [.m 30 0,.m 31 5,.L 32 7 7,.x 33 7 30 31,.s 100002 7 33 32]
 (.reg [.m 34 5,.B 35 .add 34 1,.m 5 35]))))))
 (.reg [.m 20 6,.B 21 .add 20 1,.m 6 21]))))))
 (.norm [0,5] (.q [.m 36 0,.m 37 5,.op 38 (.slice 7 (.t 36) (some (.t 37)) none),⟨none,none,100003,.clear 7 [.pv (.string ⟨#[]⟩),.pv (.int .i64 0),.sl true 1 () [],.pv (.int .i64 0),.sl true 1 () [],.pv (.int .i64 0),.pv (.bool false)] (.t 38)⟩]
 (.q [.m 39 0,.m 40 5,.op 41 (.slice 7 (.t 39) none (some (.t 40))),.m 4 41]
 .ret))))))⟩
theorem r_z_DeleteFuncimplApply1 {Te:TE} (c_z_IndexFuncimplApply1:C_z_IndexFuncimplApply1 Te) (c_i_Apply1:C_i_Apply1 Te):C_z_DeleteFuncimplApply1 (RFV Te 203 x_z_DeleteFuncimplApply1):=by
 intro l r hl
 refine run0V ?_
 simp -implicitDefEqProofs (maxSteps:=1000000) only [x_z_DeleteFuncimplApply1,go_sem]
 repeat refine ⟨sc,?_⟩
 try exact sf
 refine C0 (c_z_IndexFuncimplApply1 l r (by omega)) ?_
 rcases rowAt_cases l r.Key with ⟨e1,e2⟩ | ⟨hk,e1,e2⟩
 ·have e:=delRows_none e1
  exact F2 e1 e
 have c1:((rowIx l r.Key:Int) == -1)=false:=by simp only [beq_eq_false_iff_ne]; omega
 have d1:=delRows_take hk
 refine G2 e1 c1 ?_
 refine loop_of (σ:=Nat×List RowV×List (List T)) (fun x=>⟨[(0,.one (.rf 0 0 [] 7 0 l.length)),(1,.fn 203 1 0),(5,.one (.pv (.int .i64 x.2.1.length))),(6,.one (.pv (.int .i64 x.1)))],[(1,[.pv (.int .i64 r.Kind),.pv (.string r.R.Key),.pv (.int .i64 r.R.Old.Tag),.dead,.pv (.int .i64 r.R.New.Tag),.dead,.pv (.int .i64 r.R.Has),.pv (.bool r.R.Aside),.pv (.string r.Key),.pv (.int .i64 r.N),.pv (.int .i64 r.Who),.pv (.int .i64 r.Seq),.pv (.int .i64 r.Code)])],[(0,[Tr.sl true 7 () (delSt l x.2.1 x.2.2 x.1)]),(1,r.dim)]⟩) (fun x=>x.1≤l.length∧x.2.1=delRows (l.take x.1) r.Key∧x.2.1.length + x.2.2.length=x.1∧x.2.2≠[]∧∀ y∈x.2.2,y.length=7) (fun x=>l.length - x.1) (rowIx l r.Key + 1,l.take (rowIx l r.Key),[l[rowIx l r.Key].enc true]) ?_ ⟨hk,d1.symm,by simp only [List.length_take,List.length_cons,List.length_nil]; omega,by simp,fun y hy=>by simp only [List.mem_cons,List.not_mem_nil,or_false] at hy; rw [hy]; rfl⟩ ?_
 ·have e3:delSt l (l.take (rowIx l r.Key)) [l[rowIx l r.Key].enc true] (rowIx l r.Key + 1)=l.map (RowV.enc true):=by
   simp only [delSt]
   rw [List.append_assoc,show ([l[rowIx l r.Key].enc true]++(l.drop (rowIx l r.Key + 1)).map (RowV.enc true))=(l.drop (rowIx l r.Key)).map (RowV.enc true) by rw [List.drop_eq_getElem_cons hk,List.map_cons]; rfl,← List.map_append,List.take_append_drop]
  have e4:(l.take (rowIx l r.Key)).length=rowIx l r.Key:=by rw [List.length_take]; omega
  simp -implicitDefEqProofs (maxSteps:=1000000) only [go_sem,e3,e4]
  rw [IntWalk.i64_in _ (by omega)]
  try rfl
 ·rintro ⟨j,k,m⟩ ⟨hj,hk',hm,hne,hm7⟩
  simp only at hj hk' hm hne hm7
  have el:=delSt_len hj hm
  cases q:decide ((j:Int) < (l.length:Int))
  ·have k0:j=l.length:=by simp only [decide_eq_false_iff_not] at q; omega
   subst k0
   rw [List.take_length] at hk'
   refine G2 q el ?_
   have hkl:k.length≤l.length:=by omega
   have eA:List.take k.length (delSt l k m l.length)=k.map (RowV.enc true):=by
    rw [delSt,List.append_assoc]
    exact List.take_left' (by simp)
   refine ⟨decide_eq_true (by simp only [List.length_take,el,List.length_drop]; omega),?_⟩
   rw [eA,Nat.sub_zero,List.append_assoc,List.take_left' (by simp),← hk']
   try rfl
  ·have k1:j < l.length:=by simp only [decide_eq_true_eq] at q; omega
   have eg:=delSt_get k1 hm
   have ed:(delSt l k m j).getD j []=l[j].enc true:=by rw [List.getD_eq_getElem?_getD,eg]; rfl
   refine G4 q eg ed el ?_
   refine C3 (c_i_Apply1 l[j] r) eg ed el ?_
   have st:=delRows_step (key:=r.Key) k1
   rw [← hk'] at st
   cases g:decide (l[j].Key=r.Key)
   ·obtain ⟨x,m',rfl⟩:∃ x m',m=x::m':=by
     cases m with
     | nil=>exact absurd rfl hne
     | cons x m'=>exact ⟨x,m',rfl⟩
    have e5:∀ X:List T,((delSt l k (x::m') j).set j X)[j]?=some X:=fun X=>List.getElem?_set_self (by rw [el]; exact k1)
    have e6:(j==k.length)=false:=by simp only [beq_eq_false_iff_ne]; simp only [List.length_cons] at hm; omega
    have hx7:=hm7 x (List.mem_cons_self ..)
    have e7:∀ X:List T,((delSt l k (x::m') j).set j X).getD k.length []=x:=fun X=>by
     rw [List.getD_eq_getElem?_getD,List.getElem?_set_ne (by simp only [List.length_cons] at hm; omega),← List.getD_eq_getElem?_getD,delSt_row]
    have e8:x.drop 7=[]:=List.drop_of_length_le (by omega)
    have e9:decide (k.length < l.length)=true:=decide_eq_true (by simp only [List.length_cons] at hm; omega)
    have e10:=delSt_move (k:=k) (m:=m') (x:=x) k1 hm
    simp only [goneR] at e10
    try simp -implicitDefEqProofs (maxSteps:=1000000) only [go_sem,g,eg,ed,el,e5,e6,List.set_set,List.length_set,take_rows]
    repeat refine ⟨sc,?_⟩
    try exact sf
    try simp -implicitDefEqProofs (maxSteps:=1000000) only [go_sem,storeAp,setCells,e5,e6,e7,e8,e9,e10,el,List.set_set,List.length_set,take_rows]
    repeat refine ⟨sc,?_⟩
    try exact sf
    refine ⟨(j + 1,k++[l[j]],m'++[goneR l[j]]),?_,⟨k1,by rw [st,g]; rfl,by simp only [List.length_append,List.length_cons,List.length_nil] at hm ⊢; omega,by simp,fun y hy=>by
     rcases List.mem_append.1 hy with hy | hy
     ·exact hm7 y (List.mem_cons_of_mem _ hy)
     ·simp only [List.mem_cons,List.not_mem_nil,or_false] at hy; rw [hy]; rfl⟩,by simp only; omega⟩
    rw [IntWalk.i64_in _ (by omega),IntWalk.i64_in _ (by simp only [List.length_cons] at hm; omega)]
    simp only [List.length_append]
    rfl
   ·refine G1 g ?_
    refine ⟨(j + 1,k,m++[l[j].enc true]),?_,⟨k1,by rw [st,g]; rfl,by simp only [List.length_append,List.length_cons,List.length_nil]; omega,by simp,fun y hy=>by
     rcases List.mem_append.1 hy with hy | hy
     ·exact hm7 y hy
     ·simp only [List.mem_cons,List.not_mem_nil,or_false] at hy; rw [hy]; rfl⟩,by simp only; omega⟩
    rw [IntWalk.i64_in _ (by omega),delSt_skip k1]
    rfl
def x_l_markByteSS:FnX:=⟨19,[.tmp 4],
  .q [.i 4 0]
 (.seq (.q [.i 5 0]
 (.block 0 (.loop [0,1,5] (.seq (.q [.m 6 5,.m 7 0,.n 8 7,.b 9 .lss 6 8]
 (.cond 9 .skip (.exit 0)))
 (.seq (.block 1 (.reg [.m 12 0,.m 13 5,.x 14 1 12 13,.l 15 14,.m 16 1,.op 17 (.io 171 (.t 15) [(.t 16)]),.m 1 17]))
 (.reg [.m 10 5,.B 11 .add 10 1,.m 5 11]))))))
 (.norm [1] (.q [.m 18 1,.m 4 18]
 .ret)))⟩
theorem r_l_markByteSS {Te:TE} (c_l_markByteS:C_l_markByteS Te):C_l_markByteSS (RF Te x_l_markByteSS):=by
 intro l k hl hk
 refine run0 ?_
 have hl1:=hl.1
 simp -implicitDefEqProofs (maxSteps:=1000000) (disch:=omega) only [x_l_markByteSS,go_sem,IntWalk.i64_in]
 refine loop_of (σ:=Nat) (fun i=>⟨[(0,.one (.rf 0 0 [] 1 0 l.length)),(1,.one (.pv (.int .i64 (farL (fun y k=>k + (1 * y.length:Nat)) (l.take i) k)))),(5,.one (.pv (.int .i64 i)))],[],[(0,[.sl true 1 () ((markL (fun y k=>marks 1 mkU y.length k) (fun y k=>k + (1 * y.length:Nat)) (l.take i) k).map (fun y=>[slT true 1 uR y])++(l.drop i).map (fun y=>[slT true 1 uR y]))]),(1,[iT k])]⟩) (fun i=>i≤l.length) (fun i=>l.length - i) 0 ?_ (Nat.zero_le _) ?_
 ·simp -implicitDefEqProofs (maxSteps:=1000000) only [go_sem]; simp [markL,farL]
 ·intro i hi
  simp -implicitDefEqProofs (maxSteps:=1000000) only [go_sem]
  refine ⟨fun h=>?_,fun h=>?_⟩
  ·have hi':i < l.length:=by simp only [decide_eq_true_eq] at h; omega
   have hb:k≤farL (fun y k=>k + (1 * y.length:Nat)) (l.take i) k∧farL (fun y k=>k + (1 * y.length:Nat)) (l.take i) k≤k + 4398046511104:=by
    have q:=farL_le (n:=2 ^ 21) (k:=k) (c:=2097152) (l:=l.take i) ⟨by rw [List.length_take]; omega,fun y hy=>hl.2 y (List.mem_of_mem_take hy)⟩ (fun (y:List UInt8) (hy:y.length≤2 ^ 21) (k:Int)=>⟨by show k≤k + ((1 * y.length:Nat):Int); omega,by show k + ((1 * y.length:Nat):Int)≤_; omega⟩)
    omega
   have he:=hl.2 _ (List.getElem_mem hi')
   have hset:=markL_set (fun y=>[slT true 1 uR y]) (fun y k=>marks 1 mkU y.length k) (fun y k=>k + (1 * y.length:Nat)) l k hi'
   have hnext:=farL_take (fun y k=>k + (1 * y.length:Nat)) l k hi'
   have e0:l[i].length≤2 ^ 21:=he
   generalize farL (fun y k=>k + (1 * y.length:Nat)) (l.take i) k=j at hb hset hnext ⊢
   try simp -implicitDefEqProofs (maxSteps:=1000000) (disch:=omega) only [go_sem,storeAp,setCells,List.length_set,List.set_set,markL_len (fun y=>[slT true 1 uR y]) (fun y k=>marks 1 mkU y.length k) (fun y k=>k + (1 * y.length:Nat)) l k hi,List.getD_eq_getElem?_getD,markL_at (fun y=>[slT true 1 uR y]) (fun y k=>marks 1 mkU y.length k) (fun y k=>k + (1 * y.length:Nat)) l k hi',markL_reat (fun y=>[slT true 1 uR y]) (fun y k=>marks 1 mkU y.length k) (fun y k=>k + (1 * y.length:Nat)) l k hi',Option.getD_some,IntWalk.i64_in]
   repeat (first | refine ⟨by decide,?_⟩ | refine ⟨decide_eq_true hi',?_⟩)
   refine .of (c_l_markByteS (l[i]) _ (by omega) (by omega)) ?_
   simp -implicitDefEqProofs (maxSteps:=1000000) (disch:=omega) only [go_sem,storeAp,setCells,List.length_set,List.set_set,markL_len (fun y=>[slT true 1 uR y]) (fun y k=>marks 1 mkU y.length k) (fun y k=>k + (1 * y.length:Nat)) l k hi,List.getD_eq_getElem?_getD,markL_at (fun y=>[slT true 1 uR y]) (fun y k=>marks 1 mkU y.length k) (fun y k=>k + (1 * y.length:Nat)) l k hi',markL_reat (fun y=>[slT true 1 uR y]) (fun y k=>marks 1 mkU y.length k) (fun y k=>k + (1 * y.length:Nat)) l k hi',Option.getD_some,IntWalk.i64_in]
   repeat (first | refine ⟨by decide,?_⟩ | refine ⟨decide_eq_true hi',?_⟩)
   refine ⟨i + 1,?_,hi',by omega⟩
   rw [hnext,← hset]
   rfl
  ·have:i=l.length:=by simp only [decide_eq_false_iff_not] at h; omega
   subst this
   simp -implicitDefEqProofs (maxSteps:=1000000) only [go_sem,List.take_length,List.drop_length,List.map_nil,List.append_nil]
def x_l_heldByteSS:FnX:=⟨21,[.tmp 4],
  .q [.i 4 0]
 (.seq (.q [.i 5 0]
 (.block 0 (.loop [0,1,5] (.seq (.q [.m 6 5,.m 7 0,.n 8 7,.b 9 .lss 6 8]
 (.cond 9 .skip (.exit 0)))
 (.seq (.block 1 (.q [.m 12 0,.m 13 5,.x 14 1 12 13,.l 15 14,.m 16 1,.c 17 172 [15,16],.m 1 17]
 (.q [.m 18 1,.B 19 .lss 18 0]
 (.c 19 (.q [.i 4 (-1)]
 .ret)))))
 (.reg [.m 10 5,.B 11 .add 10 1,.m 5 11]))))))
 (.norm [1] (.q [.m 20 1,.m 4 20]
 .ret)))⟩
theorem r_l_heldByteSS {Te:TE} (c_l_heldByteS:C_l_heldByteS Te):C_l_heldByteSS (RF Te x_l_heldByteSS):=by
 intro l k hl hk
 refine run0 ?_
 have hl1:=hl.1
 simp -implicitDefEqProofs (maxSteps:=1000000) (disch:=omega) only [x_l_heldByteSS,go_sem,IntWalk.i64_in]
 refine loop_of (σ:=Nat) (fun i=>⟨[(0,.one (.ro 1 ((markL (fun y k=>marks 1 mkU y.length k) (fun y k=>k + (1 * y.length:Nat)) l k).map (fun y=>[slT false 1 uR y])))),(1,.one (.pv (.int .i64 (farL (fun y k=>k + (1 * y.length:Nat)) (l.take i) k)))),(5,.one (.pv (.int .i64 i)))],[],[(0,[slT false 1 (fun y=>[slT false 1 uR y]) (markL (fun y k=>marks 1 mkU y.length k) (fun y k=>k + (1 * y.length:Nat)) l k)]),(1,[iT k])]⟩) (fun i=>i≤l.length) (fun i=>l.length - i) 0 ?_ (Nat.zero_le _) ?_
 ·simp -implicitDefEqProofs (maxSteps:=1000000) only [go_sem]; simp [farL]
 ·intro i hi
  simp -implicitDefEqProofs (maxSteps:=1000000) only [go_sem,markL_length]
  refine ⟨fun h=>?_,fun h=>?_⟩
  ·have hi':i < l.length:=by simp only [decide_eq_true_eq] at h; omega
   have hb:k≤farL (fun y k=>k + (1 * y.length:Nat)) (l.take i) k∧farL (fun y k=>k + (1 * y.length:Nat)) (l.take i) k≤k + 4398046511104:=by
    have q:=farL_le (n:=2 ^ 21) (k:=k) (c:=2097152) (l:=l.take i) ⟨by rw [List.length_take]; omega,fun y hy=>hl.2 y (List.mem_of_mem_take hy)⟩ (fun (y:List UInt8) (hy:y.length≤2 ^ 21) (k:Int)=>⟨by show k≤k + ((1 * y.length:Nat):Int); omega,by show k + ((1 * y.length:Nat):Int)≤_; omega⟩)
    omega
   have he:=hl.2 _ (List.getElem_mem hi')
   have hget:=markL_get (fun y k=>marks 1 mkU y.length k) (fun y k=>k + (1 * y.length:Nat)) l k hi'
   have hnext:=farL_take (fun y k=>k + (1 * y.length:Nat)) l k hi'
   have e0:l[i].length≤2 ^ 21:=he
   generalize farL (fun y k=>k + (1 * y.length:Nat)) (l.take i) k=j at hb hget hnext ⊢
   try simp -implicitDefEqProofs (maxSteps:=1000000) (disch:=omega) only [go_sem,hget,IntWalk.i64_in,mkB,bne_self_eq_false,decide_true,Bool.not_true]
   repeat (refine ⟨by decide,?_⟩)
   refine .of (c_l_heldByteS (l[i].length) _ (by omega) (by omega)) ?_
   simp -implicitDefEqProofs (maxSteps:=1000000) (disch:=omega) only [go_sem,hget,IntWalk.i64_in,mkB,bne_self_eq_false,decide_true,Bool.not_true]
   refine ⟨fun q=>by simp only [decide_eq_true_eq] at q; omega,fun _=>?_⟩
   try simp -implicitDefEqProofs (maxSteps:=1000000) (disch:=omega) only [go_sem,hget,IntWalk.i64_in,mkB,bne_self_eq_false,decide_true,Bool.not_true]
   repeat (refine ⟨by decide,?_⟩)
   refine ⟨i + 1,?_,hi',by omega⟩
   rw [hnext]
   rfl
  ·have:i=l.length:=by simp only [decide_eq_false_iff_not] at h; omega
   subst this
   simp -implicitDefEqProofs (maxSteps:=1000000) only [go_sem,List.take_length]
def x_l_szWr:FnX:=⟨12,[.tmp 4],
  .q [.v 2 0,.i 4 0]
 (.q [.f 5 2 1,.l 6 5,.m 7 1,.c 8 126 [6,7],.m 1 8]
 (.seq (.q [.m 9 1,.B 10 .lss 9 0]
 (.c 10 (.q [.i 4 (-1)]
 .ret)))
 (.q [.m 11 1,.m 4 11]
 .ret)))⟩
theorem r_l_szWr {Te:TE} (c_l_szByteS:C_l_szByteS Te):C_l_szWr (RF Te x_l_szWr):=by
 intro x k hx hk
 refine run0 ?_
 have h0:=hx
 simp -implicitDefEqProofs (maxSteps:=1000000) (disch:=omega) only [x_l_szWr,go_sem,IntWalk.i64_in]
 refine .of (c_l_szByteS _ _ h0 hk) ?_
 simp -implicitDefEqProofs (maxSteps:=1000000) (disch:=omega) only [go_sem,IntWalk.i64_in]
 refine ⟨fun q0=>?_,fun q0=>?_⟩
 ·simp only [decide_eq_true_eq] at q0
  simp only [szWr,szAll,if_pos q0]
 ·simp only [decide_eq_false_iff_not] at q0
  have k1:0≤(left (k - (x.B.length:Nat)))∧(left (k - (x.B.length:Nat)))≤2 ^ 48:=⟨by omega,Int.le_trans (Sane.left _ _ hk.1) hk.2⟩
  simp only [szWr,szAll,if_neg q0]
def x_l_toWr:FnX:=⟨12,[.cell 2 (some 2)],
  .q [.v 1 0,.op 2 (.alloc [.i 0,.nils 1])]
 (.q [.op 3 (.alloc [.i 0,.nils 1])]
 (.q [.f 4 1 0,.l 5 4,.f 6 3 0,.s 100001 1 6 5]
 (.q [.f 7 1 1,.l 8 7,.c 9 148 [8],.f 10 3 1,.s 100002 1 10 9]
 (.q [.L 11 2 3,.s 100003 2 2 11]
 .ret))))⟩
theorem r_l_toWr {Te:TE} (c_l_toByteS:C_l_toByteS Te):C_l_toWr (RF Te x_l_toWr):=by
 intro x hx
 refine run0 ?_
 have h0:x.B.length≤2 ^ 21:=hx
 simp -implicitDefEqProofs (maxSteps:=1000000) only [x_l_toWr,go_sem]
 exact D0 (c_l_toByteS _ (Nat.le_trans h0 (by decide)))
def x_s_l9Old:FnX:=⟨7,[.tmp 2],
  .q [.v 1 0,.F 2]
 (.q [.f 3 1 5,.l 4 3,.B 5 .and 4 1,.B 6 .eql 5 1,.m 2 6]
 .ret)⟩
theorem r_s_l9Old {Te:TE}:C_s_l9Old (RF Te x_s_l9Old):=by
 intro r h
 refine run0 ?_
 have e:=and1_has _ h
 simp -implicitDefEqProofs (maxSteps:=1000000) only [x_s_l9Old,go_sem,e]
 repeat refine ⟨sc,?_⟩
 try exact sf
def x_s_l9New:FnX:=⟨7,[.tmp 2],
  .q [.v 1 0,.F 2]
 (.q [.f 3 1 5,.l 4 3,.B 5 .and 4 2,.B 6 .eql 5 2,.m 2 6]
 .ret)⟩
theorem r_s_l9New {Te:TE}:C_s_l9New (RF Te x_s_l9New):=by
 intro r h
 refine run0 ?_
 have e:=and2_has _ h
 simp -implicitDefEqProofs (maxSteps:=1000000) only [x_s_l9New,go_sem,e]
 repeat refine ⟨sc,?_⟩
 try exact sf
def x_s_Decode:FnX:=⟨35,[.tmp 4,.tmp 5],
  .q [.op 4 (.mv (.k (.one (.pv (.string ⟨#[]⟩))))),.F 5]
 (.q [.op 11 (.bslice 1 []),.m 6 11]
 (.seq (.q [.m 12 0,.c 13 231 [12],.N 14 13]
 (.c 14 (.q [.op 4 (.mv (.k (.one (.pv (.string ⟨#[]⟩))))),.F 5]
 .ret)))
 (.seq (.q [.i 7 0]
 (.block 0 (.loop [0,1,6,7] (.seq (.q [.m 15 7,.m 16 1,.n 17 16,.b 18 .lss 15 17]
 (.cond 18 .skip (.exit 0)))
 (.block 1 (.q [.m 20 0,.m 21 1,.m 22 7,.c 23 232 [20,21,22],.m 19 23,.e 24 19 0,.e 25 19 1,.e 26 19 2,.m 8 24,.m 9 25,.m 10 26]
 (.seq (.q [.m 27 10,.N 28 27]
 (.c 28 (.q [.op 4 (.mv (.k (.one (.pv (.string ⟨#[]⟩))))),.F 5]
 .ret)))
 (.q [.m 29 6,.m 30 8,.c 31 233 [29,30],.m 6 31]
 (.reg [.m 32 9,.m 7 32])))))))))
 (.norm [6] (.q [.m 33 6,.op 34 (.conv .b2s (.t 33)),.m 4 34,.T 5]
 .ret)))))⟩
theorem r_s_Decode {Te:TE} (c_s_l5Cs:C_s_l5Cs Te) (c_s_l5Get:C_s_l5Get Te) (c_s_PutSign:C_s_PutSign Te):C_s_Decode (RF Te x_s_Decode):=by
 intro cs b hb
 cases g:win cs 0 5
 ·have e:decode cs b=(⟨#[]⟩,false):=by rw [decode,g]; rfl
  refine X0 x_s_Decode.eq_1 ?_
  exact D2 (c_s_l5Cs _) g e
 ·have e:decode cs b=decGo cs b b.length 0 []:=by rw [decode,g]; rfl
  rw [e]
  generalize hD:decGo cs b b.length 0 []=D
  refine X0 x_s_Decode.eq_1 ?_
  refine C1 (c_s_l5Cs _) g ?_
  refine loop_of (σ:=Nat×Nat×List UInt8) (fun x=>⟨[(0,.one (.pv (.int .i64 cs))),(1,.one (.ro 1 (b.map uR))),(6,.one (.rf 37 0 [] 1 0 x.2.2.length)),(7,.one (.pv (.int .i64 x.2.1)))],[],[(0,[iT cs]),(1,[slT false 1 uR b]),(37,[slT true 1 uR x.2.2])]⟩) (fun x=>x.2.1≤b.length∧b.length≤x.1 + x.2.1∧x.2.2.length≤4 * x.2.1∧decGo cs b x.1 x.2.1 x.2.2=D) (fun x=>b.length - x.2.1) (b.length,0,[]) ?_ ⟨Nat.zero_le _,Nat.le_refl _,Nat.zero_le _,hD⟩ ?_
  ·simp -implicitDefEqProofs (maxSteps:=1000000) only [go_sem]
   try rfl
  ·rintro ⟨fu,i,out⟩ ⟨hi,hf,ho,hd⟩
   simp only at hi hf ho hd
   cases q:decide ((i:Int) < (b.length:Int))
   ·have hq:¬ (i:Int) < (b.length:Int):=by simpa using q
    rw [dec_end hq] at hd
    subst hd
    refine G1 q ?_
    refine ⟨areBytes_uR out,?_⟩
    rw [bytesOf_uD]
    try rfl
   ·have hq:(i:Int) < (b.length:Int):=by simpa using q
    obtain ⟨f,rfl⟩:∃ f,fu=f + 1:=⟨fu - 1,by omega⟩
    have hs:=c_s_l5Get cs b i (by omega) ⟨by omega,hq⟩
    cases g2:(signIn cs b i).2.2
    ·rw [dec_bad hq g2] at hd
     subst hd
     refine G1 q ?_
     exact D1 (hs) g2
    ·rw [dec_step hq g2] at hd
     have hn:=signIn_next ⟨by omega,hq⟩ g2
     generalize signIn cs b i=r at hs g2 hd hn
     obtain ⟨n,nx,ok⟩:=r
     simp only at hs g2 hd hn
     subst g2
     obtain ⟨j,rfl⟩:∃ j:Nat,nx=j:=⟨nx.toNat,by omega⟩
     have hl:=putSign_len out n
     refine G1 q ?_
     refine C0 (hs) ?_
     refine C0 (c_s_PutSign out n (by omega)) ?_
     exact ⟨(f,j,putSign out n),rfl,⟨by simp only; omega,by simp only; omega,by simp only; omega,hd⟩,by simp only; omega⟩
end Go.X

