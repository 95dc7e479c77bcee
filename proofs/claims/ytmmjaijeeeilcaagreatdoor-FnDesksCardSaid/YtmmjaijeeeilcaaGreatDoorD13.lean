/- Texts: CVzf_2 CVu_2 CVr CVzs_6 CR CVzs CVm CVzf CVb_2 CVj_2 CVzt_3 CVe CK_3 CVg_4. -/
import Derived.Test.YtmmjaijeeeilcaaGreatDoorD04
set_option linter.unusedVariables false
set_option linter.unusedSimpArgs false
namespace Go.X
set_option maxRecDepth 100000
set_option maxHeartbeats 8000000
def x_Bw:FnX:=⟨92,[.cell 6 (some 10),.tmp 7,.tmp 8],
  .q [.v 3 0,.v 4 1,.v 5 2,.op 6 (.alloc [.nils 1,.nils 2,.i 0,.F,.nils 7,.i 0,.nils 3,.i 0,.i 0,.i 0]),.op 7 (.mv (.k (.one (.nils 8)))),.op 8 (.mv (.k (.one (.nils 6))))]
 (.q [.f 16 3 0,.f 17 16 4,.L 18 3 17,.f 19 4 1,.l 20 19,.c 21 160 [18,20],.m 15 21,.e 22 15 0,.e 23 15 1,.op 9 (.alloc [.i 0,.i 0,.i 0]),.s 100001 3 9 22,.m 10 23]
 (.seq (.q [.f 24 4 1,.l 25 24,.f 26 4 3,.l 27 26,.c 28 72 [25,27],.N 29 28,.m 30 29,.z 30 (.m 31 10),.z 30 (.m 32 31),.y 32 (.f 33 9 1),.y 32 (.l 34 33),.y 32 (.f 35 4 3),.y 32 (.l 36 35),.y 32 (.b 37 .gtr 34 36),.z 30 (.a 38 32 37),.r 39 30 38]
 (.c 39 (.q [.L 40 10 3,.c 41 60 [40],.s 100002 10 6 41,.op 7 (.mv (.k (.one (.nils 8)))),.op 8 (.mv (.k (.one (.nils 6))))]
 .ret)))
 (.q [.L 43 10 3,.f 44 4 1,.l 45 44,.f 46 4 3,.l 47 46,.f 48 4 4,.l 49 48,.c 50 26 [43,45,47,49],.m 42 50,.e 51 42 0,.e 52 42 1,.e 53 42 2,.op 11 (.alloc [.nils 1,.nils 2,.i 0,.F,.nils 7,.i 0,.nils 3,.i 0,.i 0,.i 0]),.s 100003 10 11 51,.m 12 52,.m 13 53]
 (.seq (.q [.f 54 4 0,.l 55 54,.B 56 .eql 55 3]
 (.c 56 (.reg [.L 58 10 3,.f 59 4 1,.l 60 59,.f 61 4 3,.l 62 61,.f 63 4 4,.l 64 63,.f 65 4 5,.l 66 65,.c 67 25 [58,60,62,64,66],.m 57 67,.e 68 57 0,.e 69 57 1,.e 70 57 2,.s 100004 10 11 68,.m 12 69,.m 13 70])))
 (.q [.op 71 (.bslice 6 []),.m 14 71]
 (.seq (.q [.m 72 13]
 (.c 72 (.reg [.m 73 14,.L 74 8 4,.m 75 12,.c 76 76 [74,75],.op 77 (.bslice 6 [(.t 76)]),.op 78 (.app 6 64 (.t 73) (.t 77)),.m 14 78])))
 (.seq (.q [.f 79 11 0,.f 80 79 0,.f 81 80 3,.l 82 81]
 (.c 82 (.q [.L 83 10 11,.m 84 14,.s 100005 10 6 83,.op 7 (.mv (.k (.one (.nils 8)))),.m 8 84]
 .ret)))
 (.q [.m 85 12,.f 86 5 0,⟨none,none,100006,.store 1 (.t 86) (.i 5)⟩,.f 87 5 7,.s 100007 1 87 85]
 (.seq (.draw [.L 88 10 11,.L 89 8 5,.op 90 (.bslice 8 [(.t 89)]),.m 91 14,.s 100008 10 6 88,.m 7 90,.m 8 91] [[],[],[1],[],[0,0],[2,4,0,1,2,4],[3,5,0,1,2,3,4,5]])
 .ret)))))))))⟩
theorem r_Bw {Te:TE} (c_Aj:C_Aj Te) (c_C4:C_C4 Te) (c_Br:C_Br Te) (c_Ao:C_Ao Te) (c_As:C_As Te) (c_Bj:C_Bj Te):C_Bw (RF Te x_Bw):=by
 intro n m a hn hm
 have hL:=hn.len (by decide)
 refine X0 x_Bw.eq_1 ?_
 refine C0 (c_Aj n.S.T m.From (by have:=hn.2.2; omega)) ?_
 refine C0 (c_C4 _ _) ?_
 cases g1:(win m.From 1 9&&win m.Seq 1 65535)
 ·have e:n.deskPut m a=(n,[],[]):=by rw [NodeV.deskPut,NodeV.late,g1]; rfl
  refine G1 g1 ?_
  exact D1 (c_Br n hL) e
 cases g2:lateMark n m
 rotate_left
 ·have e:n.deskPut m a=(n,[],[]):=by rw [NodeV.deskPut,NodeV.late,g1,g2]; rfl
  cases gm:markAt n.S.T.Marks m.From with
  | none=>rw [lateMark,gm] at g2; cases g2
  | some k =>
   rw [lateMark,gm] at g2
   refine G2 g1 g2 ?_
   exact D1 (c_Br n hL) e
 have e:n.deskPut m a=((n.wrote m).1,bif (n.wrote m).1.S.D.Down then [] else [⟨5,a.From,a.To,a.Seq,a.Key,a.Text,a.N,(n.wrote m).2.1⟩],bif (n.wrote m).2.2 then [actV m (n.wrote m).2.1] else []):=by rw [NodeV.deskPut,NodeV.late,g1,g2]; rfl
 cases gm:markAt n.S.T.Marks m.From with
 | none =>
  refine G1 g1 ?_
  refine C0 (c_Ao n m.From m.Seq m.Key hn hm.1) ?_
  cases g3:(m.Kind==3)
  ·have ew:n.del m.From m.Seq m.Key=n.wrote m:=by rw [NodeV.wrote,g3]; rfl
   rw [ew]
   refine G1 g3 ?_
   cases g4:(n.wrote m).2.2
   ·cases g5:(n.wrote m).1.S.D.Down
    ·have e3:n.deskPut m a=((n.wrote m).1,[⟨5,a.From,a.To,a.Seq,a.Key,a.Text,a.N,(n.wrote m).2.1⟩],[]):=by rw [e,g4,g5]; rfl
     try simp -implicitDefEqProofs (maxSteps:=1000000) only [go_sem,g4,g5,e3,take_all,take_marks,NodeV.enc]
     repeat refine ⟨sc,?_⟩
     try exact sf
     try rfl
    ·have e3:n.deskPut m a=((n.wrote m).1,[],[]):=by rw [e,g4,g5]; rfl
     try simp -implicitDefEqProofs (maxSteps:=1000000) only [go_sem,g4,g5,e3,take_all,take_marks,NodeV.enc]
     repeat refine ⟨sc,?_⟩
     try exact sf
     try rfl
   ·have g5:=wrote_up g4
    have e3:n.deskPut m a=((n.wrote m).1,[⟨5,a.From,a.To,a.Seq,a.Key,a.Text,a.N,(n.wrote m).2.1⟩],[actV m (n.wrote m).2.1]):=by rw [e,g4,g5]; rfl
    refine G1 g4 ?_
    refine C0 (c_Bj m (n.wrote m).2.1) ?_
    try simp -implicitDefEqProofs (maxSteps:=1000000) only [go_sem,g5,e3,take_all,take_marks,NodeV.enc]
    repeat refine ⟨sc,?_⟩
    try exact sf
    try rfl
  ·have ew:n.putIn m.From m.Seq m.Key m.Text=n.wrote m:=by rw [NodeV.wrote,g3]; rfl
   refine G1 g3 ?_
   refine C0 (c_As n m.From m.Seq m.Key m.Text hn hm.1 hm.2) ?_
   rw [ew]
   cases g4:(n.wrote m).2.2
   ·cases g5:(n.wrote m).1.S.D.Down
    ·have e3:n.deskPut m a=((n.wrote m).1,[⟨5,a.From,a.To,a.Seq,a.Key,a.Text,a.N,(n.wrote m).2.1⟩],[]):=by rw [e,g4,g5]; rfl
     try simp -implicitDefEqProofs (maxSteps:=1000000) only [go_sem,g4,g5,e3,take_all,take_marks,NodeV.enc]
     repeat refine ⟨sc,?_⟩
     try exact sf
     try rfl
    ·have e3:n.deskPut m a=((n.wrote m).1,[],[]):=by rw [e,g4,g5]; rfl
     try simp -implicitDefEqProofs (maxSteps:=1000000) only [go_sem,g4,g5,e3,take_all,take_marks,NodeV.enc]
     repeat refine ⟨sc,?_⟩
     try exact sf
     try rfl
   ·have g5:=wrote_up g4
    have e3:n.deskPut m a=((n.wrote m).1,[⟨5,a.From,a.To,a.Seq,a.Key,a.Text,a.N,(n.wrote m).2.1⟩],[actV m (n.wrote m).2.1]):=by rw [e,g4,g5]; rfl
    refine G1 g4 ?_
    refine C0 (c_Bj m (n.wrote m).2.1) ?_
    try simp -implicitDefEqProofs (maxSteps:=1000000) only [go_sem,g5,e3,take_all,take_marks,NodeV.enc]
    repeat refine ⟨sc,?_⟩
    try exact sf
    try rfl
 | some k =>
  rw [lateMark,gm] at g2
  refine G2 g1 g2 ?_
  refine C0 (c_Ao n m.From m.Seq m.Key hn hm.1) ?_
  cases g3:(m.Kind==3)
  ·have ew:n.del m.From m.Seq m.Key=n.wrote m:=by rw [NodeV.wrote,g3]; rfl
   rw [ew]
   refine G1 g3 ?_
   cases g4:(n.wrote m).2.2
   ·cases g5:(n.wrote m).1.S.D.Down
    ·have e3:n.deskPut m a=((n.wrote m).1,[⟨5,a.From,a.To,a.Seq,a.Key,a.Text,a.N,(n.wrote m).2.1⟩],[]):=by rw [e,g4,g5]; rfl
     try simp -implicitDefEqProofs (maxSteps:=1000000) only [go_sem,g4,g5,e3,take_all,take_marks,NodeV.enc]
     repeat refine ⟨sc,?_⟩
     try exact sf
     try rfl
    ·have e3:n.deskPut m a=((n.wrote m).1,[],[]):=by rw [e,g4,g5]; rfl
     try simp -implicitDefEqProofs (maxSteps:=1000000) only [go_sem,g4,g5,e3,take_all,take_marks,NodeV.enc]
     repeat refine ⟨sc,?_⟩
     try exact sf
     try rfl
   ·have g5:=wrote_up g4
    have e3:n.deskPut m a=((n.wrote m).1,[⟨5,a.From,a.To,a.Seq,a.Key,a.Text,a.N,(n.wrote m).2.1⟩],[actV m (n.wrote m).2.1]):=by rw [e,g4,g5]; rfl
    refine G1 g4 ?_
    refine C0 (c_Bj m (n.wrote m).2.1) ?_
    try simp -implicitDefEqProofs (maxSteps:=1000000) only [go_sem,g5,e3,take_all,take_marks,NodeV.enc]
    repeat refine ⟨sc,?_⟩
    try exact sf
    try rfl
  ·have ew:n.putIn m.From m.Seq m.Key m.Text=n.wrote m:=by rw [NodeV.wrote,g3]; rfl
   refine G1 g3 ?_
   refine C0 (c_As n m.From m.Seq m.Key m.Text hn hm.1 hm.2) ?_
   rw [ew]
   cases g4:(n.wrote m).2.2
   ·cases g5:(n.wrote m).1.S.D.Down
    ·have e3:n.deskPut m a=((n.wrote m).1,[⟨5,a.From,a.To,a.Seq,a.Key,a.Text,a.N,(n.wrote m).2.1⟩],[]):=by rw [e,g4,g5]; rfl
     try simp -implicitDefEqProofs (maxSteps:=1000000) only [go_sem,g4,g5,e3,take_all,take_marks,NodeV.enc]
     repeat refine ⟨sc,?_⟩
     try exact sf
     try rfl
    ·have e3:n.deskPut m a=((n.wrote m).1,[],[]):=by rw [e,g4,g5]; rfl
     try simp -implicitDefEqProofs (maxSteps:=1000000) only [go_sem,g4,g5,e3,take_all,take_marks,NodeV.enc]
     repeat refine ⟨sc,?_⟩
     try exact sf
     try rfl
   ·have g5:=wrote_up g4
    have e3:n.deskPut m a=((n.wrote m).1,[⟨5,a.From,a.To,a.Seq,a.Key,a.Text,a.N,(n.wrote m).2.1⟩],[actV m (n.wrote m).2.1]):=by rw [e,g4,g5]; rfl
    refine G1 g4 ?_
    refine C0 (c_Bj m (n.wrote m).2.1) ?_
    try simp -implicitDefEqProofs (maxSteps:=1000000) only [go_sem,g5,e3,take_all,take_marks,NodeV.enc]
    repeat refine ⟨sc,?_⟩
    try exact sf
    try rfl
def x_A0_1:XCode:=.seq (.q [.f 36 6 0,.f 37 36 3,.l 38 37,.m 39 38,.z 39 (.f 40 6 8),.z 39 (.l 41 40),.z 39 (.B 42 .eql 41 30),.r 43 39 42]
 (.c 43 (.q [.L 44 9 6,.s 100005 9 4 44,.F 5]
 .ret)))
 (.seq (.draw [.f 45 6 0,.L 46 4 45,.f 47 6 7,.l 48 47,.f 49 6 8,.l 50 49,.c 51 258 [48,50],.f 52 6 7,.l 53 52,.f 54 6 8,.l 55 54,.L 56 13 3,.c 57 259 [53,55,56],.c 58 257 [46,51,57],.f 59 6 0,.s 100006 4 59 58] [[],[0],[],[2],[],[4],[3,5],[],[7],[],[9],[],[8,10,11,6],[1,6,12,12],[0,1,2,3,4,5,6,7,8,9,10,11,12,13],[14,13,13,0,1,2,3,4,5,6,7,8,9,10,11,12,13]])
 (.q [.f 60 6 0,.L 61 4 60,.c 62 260 [61],.f 63 6 0,.s 100007 4 63 62]
 (.seq (.q [.f 64 6 0,.f 65 64 3,.l 66 65]
 (.c 66 (.q [.L 67 9 6,.s 100008 9 4 67,.F 5]
 .ret)))
 (.q [.f 68 6 8,.l 69 68,.B 70 .add 69 1,.f 71 6 8,.s 100009 1 71 70]
 (.q [.L 72 3 7,.f 73 6 4,.s 100010 3 73 72]
 (.q [.L 74 9 6,.s 100011 9 4 74,.T 5]
 .ret))))))
def x_A0:FnX:=⟨75,[.cell 4 (some 9),.tmp 5],
  .q [.v 2 0,.v 3 1,.op 4 (.alloc [.nils 1,.nils 2,.i 0,.F,.nils 7,.i 0,.nils 3,.i 0,.i 0]),.F 5]
 (.q [.L 9 9 2,.c 10 158 [9],.op 6 (.alloc [.nils 1,.nils 2,.i 0,.F,.nils 7,.i 0,.nils 3,.i 0,.i 0]),.s 100001 9 6 10]
 (.q [.f 12 2 4,.L 13 3 12,.L 14 13 3,.c 15 255 [13,14],.m 11 15,.e 16 11 0,.e 17 11 1,.op 7 (.alloc [.nils 7,.i 0,.nils 3]),.s 100002 3 7 16,.m 8 17]
 (.seq (.q [.L 18 9 2,.c 19 89 [18],.N 20 19,.m 21 20,.z 21 (.f 22 2 0),.z 21 (.f 23 22 3),.z 21 (.l 24 23),.r 25 21 24,.m 26 25,.z 26 (.m 27 8),.z 26 (.N 28 27),.r 29 26 28]
 (.c 29 (.q [.L 30 9 6,.s 100003 9 4 30,.F 5]
 .ret)))
 (.seq (.q [.f 31 6 8,.l 32 31,.B 33 .eql 32 30]
 (.c 33 (.reg [.L 34 9 6,.c 35 256 [34],.s 100004 9 6 35])))
 (.norm [3,4,6,7] (x_A0_1))))))⟩
theorem r_A0 {Te:TE} (c_Bt:C_Bt Te) (c_A1:C_A1 Te) (c_Bd:C_Bd Te) (c_Ai:C_Ai Te) (c_Cb:C_Cb Te) (c_Aw:C_Aw Te) (c_Bi:C_Bi Te) (c_Af:C_Af Te):C_A0 (RF Te x_A0):=by
 intro s r hs hr
 have hL:=hs.len (by decide)
 refine X0 x_A0.eq_1 ?_
 refine C0 (c_Bt s hL) ?_
 refine C0 (c_A1 s.T r hs.2 hr) ?_
 refine C0 (c_Bd s (hs.mono (by decide))) ?_
 cases g1:s.ok
 ·have e:s.add r=(s,false):=by rw [StoreV.add,StoreV.fits,g1]; rfl
  try simp -implicitDefEqProofs (maxSteps:=1000000) only [go_sem,e,take_all,take_marks,StoreV.enc]
  repeat refine ⟨sc,?_⟩
  try exact sf
  try rfl
 cases g2:s.D.Down
 rotate_left
 ·have e:s.add r=(s,false):=by rw [StoreV.add,StoreV.fits,g1,g2]; rfl
  try simp -implicitDefEqProofs (maxSteps:=1000000) only [go_sem,g2,e,take_all,take_marks,StoreV.enc]
  repeat refine ⟨sc,?_⟩
  try exact sf
  try rfl
 cases g3:(s.T.apply r).2
 ·have e:s.add r=(s,false):=by rw [StoreV.add,StoreV.fits,g1,g2,g3]; rfl
  try simp -implicitDefEqProofs (maxSteps:=1000000) only [go_sem,g2,g3,e,take_all,take_marks,StoreV.enc]
  repeat refine ⟨sc,?_⟩
  try exact sf
  try rfl
 have e:s.add r=s.room.end (s.T.apply r).1 r:=by rw [StoreV.add,StoreV.fits,g1,g2,g3]; rfl
 have hr8:=hr.mono (m:=2 ^ 48) (by decide)
 have q:=room_ok g1 hs.2
 have hk1:=(StoreV.ok_iff s).1 g1
 rw [e]
 generalize (s.T.apply r).1=t
 clear e
 cases g4:(s.Place==30)
 ·have er:s.room=s:=by rw [StoreV.room,g4]; rfl
  rw [er] at q ⊢
  have f2:=write_ok q.1 (secOf s.Gen s.Place) (putRec s.Gen s.Place r)
  have hp:=putRec_len s.Gen s.Place r
  have ew:IntKind.i64.wrap (s.Place + 1)=s.Place + 1:=IntWalk.i64_in _ (by omega)
  have t1:=c_Bi s.D (secOf s.Gen s.Place) (putRec s.Gen s.Place r) q.1 (by omega)
  simp only [DevV.enc,g2] at t1
  refine G2 g2 g4 ?_
  simp -implicitDefEqProofs (maxSteps:=1000000) only [x_A0_1,go_sem,g4]
  repeat refine ⟨sc,?_⟩
  refine C0 (c_Cb _ _) ?_
  refine C0 (c_Aw s.Gen s.Place r hr8) ?_
  refine C0 (t1) ?_
  refine C0 (c_Af _ f2) ?_
  have el:((s.D.write (secOf s.Gen s.Place) (putRec s.Gen s.Place r)).flush)=s.log r:=rfl
  rw [el]
  cases g9:(s.log r).Down
  ·have e2:s.end t r=(⟨s.log r,t,s.Gen,s.Place + 1⟩,true):=by rw [StoreV.end,g2,g4,g9]; rfl
   try simp -implicitDefEqProofs (maxSteps:=1000000) only [go_sem,g9,ew,e2,take_all,take_marks,StoreV.enc]
   repeat refine ⟨sc,?_⟩
   try exact sf
   try rfl
  ·have e2:s.end t r=(⟨s.log r,s.T,s.Gen,s.Place⟩,false):=by rw [StoreV.end,g2,g4,g9]; rfl
   try simp -implicitDefEqProofs (maxSteps:=1000000) only [go_sem,g9,e2,take_all,take_marks,StoreV.enc]
   repeat refine ⟨sc,?_⟩
   try exact sf
   try rfl
 ·have er:s.room=s.relay:=by rw [StoreV.room,g4]; rfl
  rw [er] at q ⊢
  have tl:=c_Ai s hs
  simp only [StoreV.enc,DevV.enc,g2] at tl
  refine G2 g2 g4 ?_
  refine C0 (tl) ?_
  generalize s.relay=S at q ⊢
  cases gd:S.D.Down
  rotate_left
  ·have e2:S.end t r=(S,false):=by rw [StoreV.end,gd]; rfl
   try simp -implicitDefEqProofs (maxSteps:=1000000) only [go_sem,x_A0_1,gd,e2,take_all,take_marks,StoreV.enc]
   repeat refine ⟨sc,?_⟩
   try exact sf
   try rfl
  cases gp:(S.Place==30)
  rotate_left
  ·have e2:S.end t r=(S,false):=by rw [StoreV.end,gd,gp]; rfl
   try simp -implicitDefEqProofs (maxSteps:=1000000) only [go_sem,x_A0_1,gd,gp,e2,take_all,take_marks,StoreV.enc]
   repeat refine ⟨sc,?_⟩
   try exact sf
   try rfl
  have f2:=write_ok q.1 (secOf S.Gen S.Place) (putRec S.Gen S.Place r)
  have hp:=putRec_len S.Gen S.Place r
  have ew:IntKind.i64.wrap (S.Place + 1)=S.Place + 1:=IntWalk.i64_in _ (by omega)
  have t1:=c_Bi S.D (secOf S.Gen S.Place) (putRec S.Gen S.Place r) q.1 (by omega)
  simp only [DevV.enc,gd] at t1
  simp -implicitDefEqProofs (maxSteps:=1000000) only [x_A0_1,go_sem,gd,gp]
  repeat refine ⟨sc,?_⟩
  refine C0 (c_Cb _ _) ?_
  refine C0 (c_Aw S.Gen S.Place r hr8) ?_
  refine C0 (t1) ?_
  refine C0 (c_Af _ f2) ?_
  have el:((S.D.write (secOf S.Gen S.Place) (putRec S.Gen S.Place r)).flush)=S.log r:=rfl
  rw [el]
  cases g9:(S.log r).Down
  ·have e2:S.end t r=(⟨S.log r,t,S.Gen,S.Place + 1⟩,true):=by rw [StoreV.end,gd,gp,g9]; rfl
   try simp -implicitDefEqProofs (maxSteps:=1000000) only [go_sem,g9,ew,e2,take_all,take_marks,StoreV.enc]
   repeat refine ⟨sc,?_⟩
   try exact sf
   try rfl
  ·have e2:S.end t r=(⟨S.log r,S.T,S.Gen,S.Place⟩,false):=by rw [StoreV.end,gd,gp,g9]; rfl
   try simp -implicitDefEqProofs (maxSteps:=1000000) only [go_sem,g9,e2,take_all,take_marks,StoreV.enc]
   repeat refine ⟨sc,?_⟩
   try exact sf
   try rfl
def x_Bk:FnX:=⟨20,[.cell 4 (some 10),.tmp 5],
  .q [.v 2 0,.v 3 1,.op 4 (.alloc [.nils 1,.nils 2,.i 0,.F,.nils 7,.i 0,.nils 3,.i 0,.i 0,.i 0]),.F 5]
 (.q [.f 9 2 0,.L 10 9 9,.L 11 13 3,.c 12 174 [10,11],.m 8 12,.e 13 8 0,.e 14 8 1,.op 6 (.alloc [.nils 1,.nils 2,.i 0,.F,.nils 7,.i 0,.nils 3,.i 0,.i 0]),.s 100001 9 6 13,.m 7 14]
 (.q [.L 15 9 6,.f 16 2 9,.l 17 16,.op 18 (.build [.nils 1,.nils 2,.i 0,.F,.nils 7,.i 0,.nils 3,.i 0,.i 0,.i 0] [(0,9,(.t 15)),(9,1,(.t 17))]),.m 19 7,.s 100002 10 4 18,.m 5 19]
 .ret))⟩
theorem r_Bk {Te:TE} (c_A0:C_A0 Te):C_Bk (RF Te x_Bk):=by
 intro n r hn hr
 refine X0 x_Bk.eq_1 ?_
 refine .of (c_A0 n.S r hn hr) ?_
 try simp -implicitDefEqProofs (maxSteps:=1000000) only [go_sem,take_all,take_marks,StoreV.enc]
 repeat refine ⟨sc,?_⟩
 try exact sf
 try rfl
def x_Cg:FnX:=⟨48,[.tmp 4],
  .q [.v 3 1,.op 4 (.mv (.k (.one (.nils 7))))]
 (.q [.op 9 (.bslice 7 []),.m 5 9]
 (.q [.F 6]
 (.seq (.q [.m 10 0,.n 11 10,.i 12 0]
 (.block 0 (.loop [3,5,6,10,11,12] (.q [.b 13 .lss 12 11]
 (.seq (.cond 13 .skip (.exit 0))
 (.seq (.block 1 (.q [.x 14 7 10 12,.L 15 7 14,.op 8 (.alloc [.e,.i 0,.nils 1,.i 0,.nils 1,.i 0,.F]),.s 100001 7 8 15]
 (.seq (.q [.m 16 6,.N 17 16,.m 18 17,.y 18 (.f 19 8 0),.y 18 (.l 20 19),.y 18 (.f 21 3 0),.y 18 (.l 22 21),.y 18 (.b 23 .geq 20 22),.a 24 18 23]
 (.c 24 (.q [.m 25 5,.L 26 7 3,.c 27 252 [26],.op 28 (.bslice 7 [(.t 27)]),.op 29 (.app 7 96 (.t 25) (.t 28)),.m 5 29]
 (.reg [.T 6]))))
 (.q [.f 30 8 0,.l 31 30,.f 32 3 0,.l 33 32,.b 34 .neq 31 33]
 (.c 34 (.reg [.m 35 5,.L 36 7 8,.op 37 (.bslice 7 [(.t 36)]),.op 38 (.app 7 96 (.t 35) (.t 37)),.m 5 38]))))))
 (.reg [.B 39 .add 12 1,.m 12 39])))))))
 (.norm [3,5,6] (.seq (.q [.m 40 6,.N 41 40]
 (.c 41 (.reg [.m 42 5,.L 43 7 3,.c 44 252 [43],.op 45 (.bslice 7 [(.t 44)]),.op 46 (.app 7 96 (.t 42) (.t 45)),.m 5 46])))
 (.q [.m 47 5,.m 4 47]
 .ret))))))⟩
theorem r_Cg {Te:TE} (c_Bs:C_Bs Te):C_Cg (RF Te x_Cg):=by
 intro l r h hr
 refine X0 x_Cg.eq_1 ?_
 refine loop_of (σ:=Nat×List RowV×Bool) (fun x=>⟨[(3,.bp 3 0),(5,.one (.rf 50 0 [] 7 0 x.2.1.length)),(6,.one (.pv (.bool x.2.2))),(10,.one (.rf 0 0 [] 7 0 l.length)),(11,.one (.pv (.int .i64 l.length))),(12,.one (.pv (.int .i64 x.1)))],[(3,[.pv (.string r.Key),.pv (.int .i64 r.Old.Tag),.ro 1 (r.Old.B.map uR),.pv (.int .i64 r.New.Tag),.ro 1 (r.New.B.map uR),.pv (.int .i64 r.Has),.pv (.bool r.Aside)])],[(0,[Tr.sl true 7 () (leftRows r l x.1)]),(1,r.enc false),(50,[slT true 7 (RowV.enc true) x.2.1])]⟩) (fun x=>x.1≤l.length∧x.2=(l.take x.1).foldl (insR r) ([],false)) (fun x=>l.length - x.1) (0,[],false) ?_ ⟨Nat.zero_le _,rfl⟩ ?_
 ·simp -implicitDefEqProofs (maxSteps:=1000000) only [go_sem,left_zero]
  try rfl
 ·rintro ⟨i,o,p⟩ ⟨hi,he⟩
  simp only at hi he
  have hol:o.length≤2 * l.length:=by
   have:=insR_le r (l.take i) ([],false)
   rw [← he] at this
   simp only [List.length_nil,List.length_take] at this
   omega
  have ea:=app1Rw o r
  have et:List.take (o.length + 1) (List.map (RowV.enc true) (o++[r]))=List.map (RowV.enc true) (o++[r]):=List.take_of_length_le (by simp)
  cases q:decide ((i:Int) < (l.length:Int))
  ·have k0:i=l.length:=by simp only [decide_eq_false_iff_not] at q; omega
   rw [k0,List.take_length] at he
   subst k0
   cases p
   ·have e:insRow l r=o++[r]:=by rw [insRow,← he]; rfl
    refine G1 q ?_
    exact D3 (c_Bs r hr) e ea et
   ·have e:insRow l r=o:=by rw [insRow,← he]; rfl
    exact F2 q e
  ·have k1:i < l.length:=by simp only [decide_eq_true_eq] at q; omega
   have es:=insR_step (r:=r) k1
   rw [← he] at es
   have eg:=left_get (r:=r) k1
   have ed:(leftRows r l i).getD i []=l[i].enc true:=by rw [List.getD_eq_getElem?_getD,eg]; rfl
   have el:=left_len r l i
   have ex:=left_set (r:=r) k1
   have e1:∀ X:List T,((leftRows r l i).set i X)[i]?=some X:=fun X=>List.getElem?_set_self (by rw [el]; exact k1)
   have e2:∀ X:List T,((leftRows r l i).set i X).getD i []=X:=fun X=>by rw [List.getD_eq_getElem?_getD,e1]; rfl
   have eb:=app1Rw o l[i]
   have ec:=app1Rw (o++[r]) l[i]
   cases g2:decide (l[i].Key=r.Key) <;> cases g1:Op.bytesLess l[i].Key.toList r.Key.toList <;> cases p
   all_goals
    simp only [insR,g1,g2,Bool.not_true,Bool.not_false,Bool.and_true,Bool.and_false,Bool.or_true,Bool.or_false,Bool.true_or,Bool.false_or,Bool.true_and,Bool.false_and,if_true,if_false,Bool.false_eq_true] at es
    simp only [leftR,g2,if_true,if_false,Bool.false_eq_true] at ex
    try simp -implicitDefEqProofs (maxSteps:=1000000) only [go_sem,q,g1,g2,eg,ed,el,ex,e1,e2,List.set_set,List.length_set,take_rows,take_all,ea,eb,ec,et]
    repeat refine ⟨sc,?_⟩
   all_goals try (refine .of (c_Bs r hr) ?_; try simp -implicitDefEqProofs (maxSteps:=1000000) only [go_sem,g1,g2,eg,ed,el,ex,e1,e2,List.set_set,List.length_set,take_rows,take_all,ea,eb,ec,et])
   all_goals
    repeat refine ⟨sc,?_⟩
   all_goals
    refine ⟨(i + 1,(l.take (i + 1)).foldl (insR r) ([],false)),?_,⟨k1,rfl⟩,by simp only; omega⟩
    rw [← es,IntWalk.i64_in _ (by omega)]
    try simp only [List.length_append]
    try rw [left_same k1 g2]
    rfl
def x_Eb:FnX:=⟨58,[.cell 2 (some 4)],
  .q [.op 2 (.alloc [.nils 1,.nils 2,.i 0,.F])]
 (.q [.m 4 0,.op 5 (.call 317 [5] [(.t 4)]),.op 3 (.alloc [.nils 1,.nils 2,.i 0,.F]),.s 100001 4 3 5]
 (.seq (.q [.m 6 0,.op 7 (.call 96 [5,0] [(.t 6),(.i 12)])]
 (.block 0 (.q [.B 9 .eql 7 0,.m 8 9]
 (.cond 8 (.draw [.f 10 3 0,.l 11 10,.m 12 0,.op 13 (.call 96 [5,0] [(.t 12),(.i 2)]),.op 14 (.bin .add (.i 120) (.t 13)),.op 15 (.mks 1 1 [.pv (.int .u8 0)] (.t 14)),.op 16 (.iaddr 1 (.t 11) (.i 0)),.s 100002 1 16 15] [[],[0],[],[2],[3],[4,4],[1,0,1,2,3,4,5],[6,5,3,0,1,2,3,4,5]]) (.q [.B 18 .eql 7 1,.m 17 18]
 (.cond 17 (.draw [.f 19 3 1,.l 20 19,.m 21 0,.op 22 (.bslice 1 [(.i (-1)),(.i 0),(.i 99)]),.op 23 (.call 70 [5,1] [(.t 21),(.t 22)]),.m 24 0,.op 25 (.call 318 [5,0] [(.t 24),(.i 2)]),.op 26 (.build [.i 0,.nils 1] [(0,1,(.t 23)),(1,1,(.t 25))]),.op 27 (.bslice 2 [(.t 26)]),.op 28 (.app 2 32 (.t 20) (.t 27)),.f 29 3 1,.s 100003 1 29 28] [[],[0],[],[],[2,3],[],[5,4],[4,6],[7],[1,8,6],[0,1,2,3,4,5,6,7,8,9],[10,9,9,0,1,2,3,4,5,6,7,8,9]]) (.q [.B 31 .eql 7 2,.m 30 31]
 (.cond 30 (.block 1 (.loop [0,2,3] (.seq (.seq (.draw [.f 32 3 1,.l 33 32,.n 34 33,.m 35 0,.op 36 (.call 96 [5,0] [(.t 35),(.i 3)]),.op 37 (.bin .add (.i 39) (.t 36)),.b 38 .lss 34 37] [[],[0],[1],[],[3],[4],[2,5]])
 (.cond 38 .skip (.exit 1)))
 (.block 2 (.reg [.f 39 3 1,.l 40 39,.op 41 (.build [.i 0,.nils 1] []),.op 42 (.bslice 2 [(.t 41)]),.op 43 (.app 2 32 (.t 40) (.t 42)),.f 44 3 1,.s 100004 1 44 43]))))) (.q [.B 46 .eql 7 3,.m 45 46]
 (.cond 45 (.reg [.m 47 0,.op 48 (.bslice 1 [(.i 0),(.i 1),(.i 5),(.i (-2)),(.i 1001)]),.op 49 (.call 70 [5,1] [(.t 47),(.t 48)]),.f 50 3 2,.s 100005 1 50 49]) (.q [.B 52 .eql 7 4,.m 51 52]
 (.cond 51 (.reg [.f 53 3 3,⟨none,none,100006,.store 1 (.t 53) .T⟩]) (.q [.B 55 .eql 7 5,.m 54 55]
 (.c 54 (.reg [.f 56 3 2,⟨none,none,100007,.store 1 (.t 56) (.i 0)⟩])))))))))))))))
 (.norm [2,3] (.q [.L 57 4 3,.s 100008 4 2 57]
 .ret))))⟩
theorem r_Eb {Te:TE} (c_Ed:C_Ed Te) (c_Fk:C_Fk Te) (c_Fp:C_Fp Te) (c_Fn:C_Fn Te):∀ (c:CurV) (hc:c.ok),∃ r0,(∃ (x:DevV) (d:CurV),(x.In (2 ^ 20)∧d.ok)∧r0=(⟨[.agg (x.enc true)],[d.enc]⟩:Res))∧RunFn Te x_Eb [.ptr c.enc] r0:=by
 intro c hc
 refine some_of (Nat.le_of_ble_eq_true rfl) (by rfl) ?_
 have e:∀ j k:Int,k≠j→(k==j)=false:=fun j k h=>by simpa using h
 simp -implicitDefEqProofs (maxSteps:=1000000) only [x_Eb,go_sem]
 repeat refine ⟨sc,?_⟩
 try exact sf
 obtain ⟨x0,d0,⟨hx,hd⟩,ht⟩:=c_Ed c hc
 have hC:=DevV.ok_cache hx
 have hpos:0 < x0.Secs.length:=((DevV.ok_iff x0).1 hx).1.1
 obtain ⟨hS,hW1,hW2⟩:=DevV.ok_in hx
 refine C0 (ht) ?_
 obtain ⟨k,d,⟨_,hd⟩,ht⟩:=c_Fk d0 12 hd
 by_cases q0:k=0
 ·subst q0
  obtain ⟨u,d,⟨⟨hu0,hu1,_⟩,hd⟩,ht1⟩:=c_Fk d 2 hd
  have hu2:=hu1 (by decide)
  have wu:IntKind.i64.wrap (120 + u)=120 + u:=IntWalk.i64_in _ (by omega)
  have hp:decide (0 < x0.Secs.length)=true:=decide_eq_true hpos
  have es:=set_secs x0.Secs 0 (List.replicate (120 + u).toNat 0)
  have et:List.take x0.Secs.length (List.map (secR true) (x0.Secs.set 0 (List.replicate (120 + u).toNat 0)))=List.map (secR true) (x0.Secs.set 0 (List.replicate (120 + u).toNat 0)):=List.take_of_length_le (by simp)
  refine C0 (ht) ?_
  refine .of (ht1) ?_
  simp -implicitDefEqProofs (maxSteps:=1000000) only [go_sem,wu,zero_rows,take_zeros]
  repeat refine ⟨by first | exact decide_eq_true (by omega) | exact ⟨decide_eq_true (by omega),decide_eq_true (by omega)⟩,?_⟩
  simp -implicitDefEqProofs (maxSteps:=1000000) only [go_sem,storeAp,setCells,List.getD_eq_getElem?_getD,List.getElem?_eq_getElem hpos,take_zeros,hp,es,et,List.length_set]
  refine ⟨by decide,?_⟩
  exact ⟨⟨x0.Secs.set 0 (List.replicate (120 + u).toNat 0),x0.Cache,x0.Fuse,x0.Down⟩,d,⟨⟨secs_in hS (by rw [List.length_replicate]; omega),hW1,hW2⟩,hd⟩,rfl⟩
 by_cases q1:k=1
 ·subst q1
  obtain ⟨u,d,⟨_,hd⟩,ht1⟩:=c_Fp d [-1,0,99] hd (by decide)
  obtain ⟨b,d,⟨hb,hd⟩,ht2⟩:=c_Fn d 2 hd (by decide)
  have ea:=app1W x0.Cache ⟨u,b⟩
  have et:=take1 (WrV.enc true) x0.Cache ⟨u,b⟩
  refine C0 (ht) ?_
  refine C0 (ht1) ?_
  refine C2 (ht2) ea et ?_
  exact ⟨⟨x0.Secs,x0.Cache++[⟨u,b⟩],x0.Fuse,x0.Down⟩,d,⟨⟨hS,cache_in (by omega) hW2 (by show b.length≤2 ^ 20; omega)⟩,hd⟩,rfl⟩
 by_cases q2:k=2
 ·subst q2
  refine C0 (ht) ?_
  obtain ⟨E,hE⟩:∃ E:List Go.X.T,E=CurV.enc d0:=⟨_,rfl⟩
  rw [← hE]
  refine loop_of (σ:=List WrV×Bool×Nat×CurV) (fun x=>cond x.2.1 ⟨[(0,.bp 0 0),(2,.bp 2 0),(3,.bp 3 0)],[(0,[.ro 1 (x.2.2.2.b.map uR),.pv (.int .i64 x.2.2.2.i),.pv (.int .i64 x.2.2.2.h)]),(2,[.nils 1,.nils 2,.pv (.int .i64 0),.pv (.bool false)]),(3,[.rf 59 0 [] 1 0 x0.Secs.length,.rf 59 1 [] 2 0 x.1.length,.pv (.int .i64 x0.Fuse),.pv (.bool x0.Down)])],[(0,c.enc),(59,slT true 1 (secR true) x0.Secs::slT true 2 (WrV.enc true) x.1::iT x0.Fuse::bT x0.Down::E)]⟩ ⟨[(0,.bp 0 0),(2,.bp 2 0),(3,.bp 3 0)],[(0,[.ro 1 (x.2.2.2.b.map uR),.pv (.int .i64 x.2.2.2.i),.pv (.int .i64 x.2.2.2.h)]),(2,[.nils 1,.nils 2,.pv (.int .i64 0),.pv (.bool false)]),(3,[.rf 59 0 [] 1 0 x0.Secs.length,.rf 60 0 [] 2 0 x.1.length,.pv (.int .i64 x0.Fuse),.pv (.bool x0.Down)])],[(0,c.enc),(59,slT true 1 (secR true) x0.Secs::Tr.no ()::iT x0.Fuse::bT x0.Down::E),(60,[slT true 2 (WrV.enc true) x.1])]⟩) (fun x=>(x.1.length≤42∧∀ y∈x.1,y.In (2 ^ 20))∧x.2.2.2.ok) (fun x=>42 - x.1.length) (x0.Cache,true,0,d) ?_ ⟨⟨by simp only; omega,hW2⟩,hd⟩ ?_
  ·simp -implicitDefEqProofs (maxSteps:=1000000) only [go_sem]
   try rfl
  ·rintro ⟨l,b,z,d⟩ ⟨⟨hl,hI⟩,hd⟩
   simp only at hl hI hd
   obtain ⟨u,d1,⟨⟨hu0,hu1,_⟩,hd1⟩,ht⟩:=c_Fk d 3 hd
   have hu3:=hu1 (by decide)
   have wu:IntKind.i64.wrap (39 + u)=39 + u:=IntWalk.i64_in _ (by omega)
   have ea:List.map (WrV.enc true) l++[[iT 0,Tr.sl true 1 () []]]=List.map (WrV.enc true) (l++[⟨0,[]⟩]):=app1W l ⟨0,[]⟩
   have xl:(l++[WrV.mk 0 []]).length=l.length + 1:=by simp only [List.length_append,List.length_cons,List.length_nil]
   have hx2:=(cache_in (l:=l) (n:=2 ^ 20) (by omega) hI (x:=⟨0,[]⟩) (Nat.zero_le _)).2
   cases q:decide ((l.length:Int) < 39 + u)
   ·cases b
    ·refine G0 ?_
     refine C2 (ht) wu q ?_
     exact ⟨⟨x0.Secs,l,x0.Fuse,x0.Down⟩,d1,⟨⟨hS,by show l.length≤2 ^ 20; omega,hI⟩,hd1⟩,rfl⟩
    ·refine G0 ?_
     refine C2 (ht) wu q ?_
     exact ⟨⟨x0.Secs,l,x0.Fuse,x0.Down⟩,d1,⟨⟨hS,by show l.length≤2 ^ 20; omega,hI⟩,hd1⟩,rfl⟩
   ·have q':=q
    simp only [decide_eq_true_eq] at q'
    cases b
    ·refine G0 ?_
     refine C3 (ht) wu q ea ?_
     exact ⟨(l++[⟨0,[]⟩],false,0,d1),by rw [← xl]; rfl,⟨⟨by simp only [xl]; omega,hx2⟩,hd1⟩,by simp only [xl]; omega⟩
    ·refine G0 ?_
     refine C3 (ht) wu q ea ?_
     exact ⟨(l++[⟨0,[]⟩],false,0,d1),by rw [← xl]; rfl,⟨⟨by simp only [xl]; omega,hx2⟩,hd1⟩,by simp only [xl]; omega⟩
 by_cases q3:k=3
 ·subst q3
  obtain ⟨u,d,⟨_,hd⟩,ht1⟩:=c_Fp d [0,1,5,-2,1001] hd (by decide)
  refine C0 (ht) ?_
  refine C0 (ht1) ?_
  exact ⟨⟨x0.Secs,x0.Cache,u,x0.Down⟩,d,⟨⟨hS,hW1,hW2⟩,hd⟩,rfl⟩
 by_cases q4:k=4
 ·subst q4
  refine C0 (ht) ?_
  exact ⟨⟨x0.Secs,x0.Cache,x0.Fuse,true⟩,d,⟨⟨hS,hW1,hW2⟩,hd⟩,rfl⟩
 by_cases q5:k=5
 ·subst q5
  refine C0 (ht) ?_
  exact ⟨⟨x0.Secs,x0.Cache,0,x0.Down⟩,d,⟨⟨hS,hW1,hW2⟩,hd⟩,rfl⟩
 refine .of (ht) ?_
 try simp -implicitDefEqProofs (maxSteps:=1000000) only [go_sem,e 0 k q0,e 1 k q1,e 2 k q2,e 3 k q3,e 4 k q4,e 5 k q5]
 repeat refine ⟨sc,?_⟩
 try exact sf
 exact ⟨x0,d,⟨⟨hS,hW1,hW2⟩,hd⟩,rfl⟩
def x_C5:FnX:=⟨21,[.tmp 2],
  .q [.i 2 0]
 (.seq (.q [.m 3 0]
 (.block 0 (.q [.B 5 .eql 3 164,.m 4 5]
 (.cond 4 (.q [.i 2 8364]
 .ret) (.q [.B 7 .eql 3 166,.m 6 7]
 (.cond 6 (.q [.i 2 352]
 .ret) (.q [.B 9 .eql 3 168,.m 8 9]
 (.cond 8 (.q [.i 2 353]
 .ret) (.q [.B 11 .eql 3 180,.m 10 11]
 (.cond 10 (.q [.i 2 381]
 .ret) (.q [.B 13 .eql 3 184,.m 12 13]
 (.cond 12 (.q [.i 2 382]
 .ret) (.q [.B 15 .eql 3 188,.m 14 15]
 (.cond 14 (.q [.i 2 338]
 .ret) (.q [.B 17 .eql 3 189,.m 16 17]
 (.cond 16 (.q [.i 2 339]
 .ret) (.q [.B 19 .eql 3 190,.m 18 19]
 (.c 18 (.q [.i 2 376]
 .ret)))))))))))))))))))
 (.q [.m 20 0,.m 2 20]
 .ret))⟩
theorem r_C5 {Te:TE}:C_C5 (RF Te x_C5):=by
 intro b
 refine run0 ?_
 cases g0:(b==164)
 rotate_left
 ·simp -implicitDefEqProofs only [x_C5,go_sem,nine,g0]
  repeat refine ⟨sc,?_⟩
  try exact sf
 cases g1:(b==166)
 rotate_left
 ·simp -implicitDefEqProofs only [x_C5,go_sem,nine,g1,g0]
  repeat refine ⟨sc,?_⟩
  try exact sf
 cases g2:(b==168)
 rotate_left
 ·simp -implicitDefEqProofs only [x_C5,go_sem,nine,g2,g0,g1]
  repeat refine ⟨sc,?_⟩
  try exact sf
 cases g3:(b==180)
 rotate_left
 ·simp -implicitDefEqProofs only [x_C5,go_sem,nine,g3,g0,g1,g2]
  repeat refine ⟨sc,?_⟩
  try exact sf
 cases g4:(b==184)
 rotate_left
 ·simp -implicitDefEqProofs only [x_C5,go_sem,nine,g4,g0,g1,g2,g3]
  repeat refine ⟨sc,?_⟩
  try exact sf
 cases g5:(b==188)
 rotate_left
 ·simp -implicitDefEqProofs only [x_C5,go_sem,nine,g5,g0,g1,g2,g3,g4]
  repeat refine ⟨sc,?_⟩
  try exact sf
 cases g6:(b==189)
 rotate_left
 ·simp -implicitDefEqProofs only [x_C5,go_sem,nine,g6,g0,g1,g2,g3,g4,g5]
  repeat refine ⟨sc,?_⟩
  try exact sf
 cases g7:(b==190)
 rotate_left
 ·simp -implicitDefEqProofs only [x_C5,go_sem,nine,g7,g0,g1,g2,g3,g4,g5,g6]
  repeat refine ⟨sc,?_⟩
  try exact sf
 simp -implicitDefEqProofs only [x_C5,go_sem,nine,g0,g1,g2,g3,g4,g5,g6,g7]
 repeat refine ⟨sc,?_⟩
 try exact sf
def x_G2:FnX:=⟨21,[.tmp 2],
  .q [.i 2 0]
 (.seq (.q [.m 3 0]
 (.block 0 (.q [.B 5 .eql 3 164,.m 4 5]
 (.cond 4 (.q [.i 2 8364]
 .ret) (.q [.B 7 .eql 3 166,.m 6 7]
 (.cond 6 (.q [.i 2 352]
 .ret) (.q [.B 9 .eql 3 168,.m 8 9]
 (.cond 8 (.q [.i 2 353]
 .ret) (.q [.B 11 .eql 3 180,.m 10 11]
 (.cond 10 (.q [.i 2 381]
 .ret) (.q [.B 13 .eql 3 184,.m 12 13]
 (.cond 12 (.q [.i 2 382]
 .ret) (.q [.B 15 .eql 3 188,.m 14 15]
 (.cond 14 (.q [.i 2 338]
 .ret) (.q [.B 17 .eql 3 189,.m 16 17]
 (.cond 16 (.q [.i 2 339]
 .ret) (.q [.B 19 .eql 3 190,.m 18 19]
 (.c 18 (.q [.i 2 376]
 .ret)))))))))))))))))))
 (.q [.m 20 0,.m 2 20]
 .ret))⟩
theorem r_G2 {Te:TE}:C_G2 (RF Te x_G2):=by
 intro b
 refine run0 ?_
 cases g0:(b==164)
 rotate_left
 ·simp -implicitDefEqProofs only [x_G2,go_sem,nine,g0]
  repeat refine ⟨sc,?_⟩
  try exact sf
 cases g1:(b==166)
 rotate_left
 ·simp -implicitDefEqProofs only [x_G2,go_sem,nine,g1,g0]
  repeat refine ⟨sc,?_⟩
  try exact sf
 cases g2:(b==168)
 rotate_left
 ·simp -implicitDefEqProofs only [x_G2,go_sem,nine,g2,g0,g1]
  repeat refine ⟨sc,?_⟩
  try exact sf
 cases g3:(b==180)
 rotate_left
 ·simp -implicitDefEqProofs only [x_G2,go_sem,nine,g3,g0,g1,g2]
  repeat refine ⟨sc,?_⟩
  try exact sf
 cases g4:(b==184)
 rotate_left
 ·simp -implicitDefEqProofs only [x_G2,go_sem,nine,g4,g0,g1,g2,g3]
  repeat refine ⟨sc,?_⟩
  try exact sf
 cases g5:(b==188)
 rotate_left
 ·simp -implicitDefEqProofs only [x_G2,go_sem,nine,g5,g0,g1,g2,g3,g4]
  repeat refine ⟨sc,?_⟩
  try exact sf
 cases g6:(b==189)
 rotate_left
 ·simp -implicitDefEqProofs only [x_G2,go_sem,nine,g6,g0,g1,g2,g3,g4,g5]
  repeat refine ⟨sc,?_⟩
  try exact sf
 cases g7:(b==190)
 rotate_left
 ·simp -implicitDefEqProofs only [x_G2,go_sem,nine,g7,g0,g1,g2,g3,g4,g5,g6]
  repeat refine ⟨sc,?_⟩
  try exact sf
 simp -implicitDefEqProofs only [x_G2,go_sem,nine,g0,g1,g2,g3,g4,g5,g6,g7]
 repeat refine ⟨sc,?_⟩
 try exact sf
def x_C2:FnX:=⟨26,[.tmp 2],
  .q [.i 2 0]
 (.q [.op 4 (.build [.i 0,.i 0,.i 0,.i 0,.i 0,.i 0,.i 0,.i 0,.i 0,.i 0,.i 0,.i 0,.i 0,.i 0,.i 0,.i 0,.i 0,.i 0,.i 0,.i 0,.i 0,.i 0,.i 0,.i 0,.i 0,.i 0,.i 0,.i 0,.i 0,.i 0,.i 0,.i 0] [(0,1,(.i 1102)),(1,1,(.i 1072)),(2,1,(.i 1073)),(3,1,(.i 1094)),(4,1,(.i 1076)),(5,1,(.i 1077)),(6,1,(.i 1092)),(7,1,(.i 1075)),(8,1,(.i 1093)),(9,1,(.i 1080)),(10,1,(.i 1081)),(11,1,(.i 1082)),(12,1,(.i 1083)),(13,1,(.i 1084)),(14,1,(.i 1085)),(15,1,(.i 1086)),(16,1,(.i 1087)),(17,1,(.i 1103)),(18,1,(.i 1088)),(19,1,(.i 1089)),(20,1,(.i 1090)),(21,1,(.i 1091)),(22,1,(.i 1078)),(23,1,(.i 1074)),(24,1,(.i 1100)),(25,1,(.i 1099)),(26,1,(.i 1079)),(27,1,(.i 1096)),(28,1,(.i 1101)),(29,1,(.i 1097)),(30,1,(.i 1095)),(31,1,(.i 1098))]),.op 3 (.alloc [.i 0,.i 0,.i 0,.i 0,.i 0,.i 0,.i 0,.i 0,.i 0,.i 0,.i 0,.i 0,.i 0,.i 0,.i 0,.i 0,.i 0,.i 0,.i 0,.i 0,.i 0,.i 0,.i 0,.i 0,.i 0,.i 0,.i 0,.i 0,.i 0,.i 0,.i 0,.i 0]),.s 100001 32 3 4]
 (.seq (.block 0 (.q [.m 6 0,.B 7 .geq 6 224,.m 5 7]
 (.cond 5 (.q [.m 8 0,.B 9 .sub 8 224,.op 10 (.aaddr 32 1 (.t 3) (.t 9)),.l 11 10,.B 12 .sub 11 32,.m 2 12]
 .ret) (.q [.m 14 0,.B 15 .geq 14 192,.m 13 15]
 (.cond 13 (.q [.m 16 0,.B 17 .sub 16 192,.op 18 (.aaddr 32 1 (.t 3) (.t 17)),.l 19 18,.m 2 19]
 .ret) (.q [.m 21 0,.B 22 .eql 21 163,.m 20 22]
 (.cond 20 (.q [.i 2 1105]
 .ret) (.q [.m 24 0,.B 25 .eql 24 179,.m 23 25]
 (.c 23 (.q [.i 2 1025]
 .ret))))))))))
 (.q [.i 2 0]
 .ret)))⟩
theorem r_C2 {Te:TE}:C_C2 (RF Te x_C2):=by
 intro b hb
 refine run0 ?_
 cases g1:decide (b≥224)
 ·cases g2:decide (b≥192)
  ·cases g3:(b==163)
   ·cases g4:(b==179)
    ·simp -implicitDefEqProofs only [x_C2,go_sem,koi,g1,g2,g3,g4]
     repeat refine ⟨sc,?_⟩
     try exact sf
    ·simp -implicitDefEqProofs only [x_C2,go_sem,koi,g1,g2,g3,g4]
     repeat refine ⟨sc,?_⟩
     try exact sf
   ·simp -implicitDefEqProofs only [x_C2,go_sem,koi,g1,g2,g3]
    repeat refine ⟨sc,?_⟩
    try exact sf
  ·simp only [decide_eq_true_eq] at g2
   have e:IntKind.i64.wrap (b - 192)=b - 192:=IntWalk.i64_in _ (by omega)
   simp only [decide_eq_false_iff_not] at g1
   have hk:(b - 192).toNat < 32:=by omega
   have q1:=decide_eq_false g1
   have q2:=decide_eq_true g2
   simp -implicitDefEqProofs only [x_C2,go_sem,koi,q1,q2,e,Nat.mul_one]
   repeat refine ⟨sc,?_⟩
   try exact sf
   try simp -implicitDefEqProofs only [go_sem,koi_cel hk,q1,q2]
   repeat refine ⟨sc,?_⟩
   try exact sf
 ·simp only [decide_eq_true_eq] at g1
  have e:IntKind.i64.wrap (b - 224)=b - 224:=IntWalk.i64_in _ (by omega)
  have hk:(b - 224).toNat < 32:=by omega
  have q1:=decide_eq_true g1
  have hv:=koi_in ⟨(b - 224).toNat,hk⟩
  have e2:IntKind.i64.wrap (koiL.getD (b - 224).toNat 0 - 32)=koiL.getD (b - 224).toNat 0 - 32:=IntWalk.i64_in _ (by simp only at hv; omega)
  simp -implicitDefEqProofs only [x_C2,go_sem,koi,q1,e,Nat.mul_one]
  repeat refine ⟨sc,?_⟩
  try exact sf
  try simp -implicitDefEqProofs only [go_sem,koi_cel hk,q1,e2]
  repeat refine ⟨sc,?_⟩
  try exact sf
def x_Cl:FnX:=⟨19,[.tmp 4],
  .q [.v 2 0,.v 3 1,.F 4]
 (.q [.f 5 2 0,.l 6 5,.f 7 3 0,.l 8 7,.b 9 .eql 6 8,.m 10 9,.y 10 (.f 11 2 1),.y 10 (.l 12 11),.y 10 (.op 13 (.conv .b2s (.t 12))),.y 10 (.f 14 3 1),.y 10 (.l 15 14),.y 10 (.op 16 (.conv .b2s (.t 15))),.y 10 (.b 17 .eql 13 16),.a 18 10 17,.m 4 18]
 .ret)⟩
theorem r_Cl {Te:TE}:C_Cl (RF Te x_Cl):=by
 intro a
 refine run0 ?_
 have eI:∀ z:Int,(z==z)=true:=fun z=>beq_self_eq_true z
 have eL:∀ z:List UInt8,(z==z)=true:=fun z=>beq_self_eq_true z
 have ea:=areBytes_uR a.B
 have fa:=bytesOf_uR a.B
 simp -implicitDefEqProofs (maxSteps:=1000000) only [x_Cl,go_sem,eI,ea,fa,eL]
 repeat refine ⟨sc,?_⟩
 try exact sf
def x_Cp:FnX:=⟨38,[.tmp 4],
  .q [.v 2 0,.v 3 1,.F 4]
 (.q [.f 5 2 0,.l 6 5,.f 7 3 0,.l 8 7,.b 9 .eql 6 8,.m 10 9,.y 10 (.f 11 2 1),.y 10 (.L 12 2 11),.y 10 (.f 13 3 1),.y 10 (.L 14 2 13),.y 10 (.c 15 302 [12,14]),.a 16 10 15,.m 17 16,.y 17 (.f 18 2 3),.y 17 (.L 19 2 18),.y 17 (.f 20 3 3),.y 17 (.L 21 2 20),.y 17 (.c 22 302 [19,21]),.a 23 17 22,.m 24 23,.y 24 (.f 25 2 5),.y 24 (.l 26 25),.y 24 (.f 27 3 5),.y 24 (.l 28 27),.y 24 (.b 29 .eql 26 28),.a 30 24 29,.m 31 30,.y 31 (.f 32 2 6),.y 31 (.l 33 32),.y 31 (.f 34 3 6),.y 31 (.l 35 34),.y 31 (.op 36 (.beq false (.t 33) (.t 35))),.a 37 31 36,.m 4 37]
 .ret)⟩
theorem r_Cp {Te:TE} (c_Cl:C_Cl Te):C_Cp (RF Te x_Cp):=by
 intro a
 have eI:∀ z:Int,(z==z)=true:=fun z=>beq_self_eq_true z
 have eB:∀ z:Bool,(z==z)=true:=fun z=>beq_self_eq_true z
 have eL:∀ z:List UInt8,(z==z)=true:=fun z=>beq_self_eq_true z
 refine X1 x_Cp.eq_1 eL ?_
 refine C0 (c_Cl a.Old) ?_
 exact D2 (c_Cl a.New) eI eB
def x_Cm:FnX:=⟨94,[.tmp 4],
  .q [.v 2 0,.v 3 1,.F 4]
 (.seq (.q [.f 7 2 0,.l 8 7,.n 9 8,.f 10 3 0,.l 11 10,.n 12 11,.b 13 .neq 9 12,.m 14 13,.z 14 (.f 15 2 1),.z 14 (.l 16 15),.z 14 (.n 17 16),.z 14 (.f 18 3 1),.z 14 (.l 19 18),.z 14 (.n 20 19),.z 14 (.b 21 .neq 17 20),.r 22 14 21,.m 23 22,.z 23 (.f 24 2 2),.z 23 (.l 25 24),.z 23 (.f 26 3 2),.z 23 (.l 27 26),.z 23 (.b 28 .neq 25 27),.r 29 23 28,.m 30 29,.z 30 (.f 31 2 3),.z 30 (.l 32 31),.z 30 (.f 33 3 3),.z 30 (.l 34 33),.z 30 (.op 35 (.beq true (.t 32) (.t 34))),.r 36 30 35]
 (.c 36 (.q [.F 4]
 .ret)))
 (.seq (.q [.i 5 0]
 (.block 0 (.loop [2,3,5] (.seq (.q [.m 37 5,.f 38 2 0,.l 39 38,.n 40 39,.b 41 .lss 37 40]
 (.cond 41 .skip (.exit 0)))
 (.seq (.block 1 (.seq (.draw [.f 44 2 0,.l 45 44,.m 46 5,.x 47 1 45 46,.l 48 47,.op 49 (.conv .b2s (.t 48)),.f 50 3 0,.l 51 50,.m 52 5,.x 53 1 51 52,.l 54 53,.op 55 (.conv .b2s (.t 54)),.b 56 .neq 49 55] [[],[0],[],[1,2],[3],[4],[],[6],[],[7,8],[9],[10],[5,11]])
 (.c 56 (.q [.F 4]
 .ret))))
 (.reg [.m 42 5,.B 43 .add 42 1,.m 5 43]))))))
 (.norm [2,3] (.seq (.q [.i 6 0]
 (.block 2 (.loop [2,3,6] (.seq (.q [.m 57 6,.f 58 2 1,.l 59 58,.n 60 59,.b 61 .lss 57 60]
 (.cond 61 .skip (.exit 2)))
 (.seq (.block 3 (.seq (.draw [.f 64 2 1,.l 65 64,.m 66 6,.x 67 2 65 66,.f 68 67 0,.l 69 68,.f 70 3 1,.l 71 70,.m 72 6,.x 73 2 71 72,.f 74 73 0,.l 75 74,.b 76 .neq 69 75,.m 77 76,.z 77 (.f 78 2 1),.z 77 (.l 79 78),.z 77 (.m 80 6),.z 77 (.x 81 2 79 80),.z 77 (.f 82 81 1),.z 77 (.l 83 82),.z 77 (.op 84 (.conv .b2s (.t 83))),.z 77 (.f 85 3 1),.z 77 (.l 86 85),.z 77 (.m 87 6),.z 77 (.x 88 2 86 87),.z 77 (.f 89 88 1),.z 77 (.l 90 89),.z 77 (.op 91 (.conv .b2s (.t 90))),.z 77 (.b 92 .neq 84 91),.r 93 77 92] [[],[0],[],[1,2],[3],[4],[],[6],[],[7,8],[9],[10],[5,11],[12],[13],[14,13],[13],[15,16,13],[17,13],[18,13],[19,13],[13],[21,13],[13],[22,23,13],[24,13],[25,13],[26,13],[20,27,13],[13,28]])
 (.c 93 (.q [.F 4]
 .ret))))
 (.reg [.m 62 6,.B 63 .add 62 1,.m 6 63]))))))
 (.norm [] (.q [.T 4]
 .ret))))))⟩
theorem r_Cm {Te:TE}:C_Cm (RF Te x_Cm):=by
 intro d h
 obtain ⟨⟨hS,_⟩,hC,_⟩:=h
 have nI:∀ z:Int,(z != z)=false:=fun z=>bne_self_eq_false z
 have nB:∀ z:Bool,(z != z)=false:=fun z=>bne_self_eq_false z
 have eL:∀ z:List UInt8,(z==z)=true:=fun z=>beq_self_eq_true z
 refine X2 x_Cm.eq_1 nI nB ?_
 refine loop_of (σ:=Nat) (fun i=>⟨[(2,.bp 2 0),(3,.bp 3 0),(5,.one (.pv (.int .i64 i)))],[(2,[.ro 1 (d.Secs.map (fun y=>[slT false 1 uR y])),.ro 2 (d.Cache.map (WrV.enc false)),.pv (.int .i64 d.Fuse),.pv (.bool d.Down)]),(3,[.ro 1 (d.Secs.map (fun y=>[slT false 1 uR y])),.ro 2 (d.Cache.map (WrV.enc false)),.pv (.int .i64 d.Fuse),.pv (.bool d.Down)])],[(0,d.enc false),(1,d.enc false)]⟩) (fun i=>i≤d.Secs.length) (fun i=>d.Secs.length - i) 0 ?_ (Nat.zero_le _) ?_
 ·simp -implicitDefEqProofs (maxSteps:=1000000) only [go_sem]
  try rfl
 ·rintro i hi
  cases q:decide ((i:Int) < (d.Secs.length:Int))
  ·refine G1 q ?_
   refine loop_of (σ:=Nat) (fun i=>⟨[(2,.bp 2 0),(3,.bp 3 0),(6,.one (.pv (.int .i64 i)))],[(2,[.ro 1 (d.Secs.map (fun y=>[slT false 1 uR y])),.ro 2 (d.Cache.map (WrV.enc false)),.pv (.int .i64 d.Fuse),.pv (.bool d.Down)]),(3,[.ro 1 (d.Secs.map (fun y=>[slT false 1 uR y])),.ro 2 (d.Cache.map (WrV.enc false)),.pv (.int .i64 d.Fuse),.pv (.bool d.Down)])],[(0,d.enc false),(1,d.enc false)]⟩) (fun i=>i≤d.Cache.length) (fun i=>d.Cache.length - i) 0 ?_ (Nat.zero_le _) ?_
   ·simp -implicitDefEqProofs (maxSteps:=1000000) only [go_sem]
    try rfl
   ·rintro i hi
    cases q:decide ((i:Int) < (d.Cache.length:Int))
    ·exact F1 q
    ·have k1:i < d.Cache.length:=by simp only [decide_eq_true_eq] at q; omega
     have ea:=areBytes_uR d.Cache[i].B
     have fa:=bytesOf_uR d.Cache[i].B
     have k2:=List.getElem?_eq_getElem k1
     try simp -implicitDefEqProofs (maxSteps:=1000000) only [go_sem,q,k2,nI,ea,fa,eL]
     repeat refine ⟨sc,?_⟩
     try exact sf
     exact ⟨i + 1,by rw [IntWalk.i64_in _ (by omega)]; rfl,k1,by omega⟩
  ·have k1:i < d.Secs.length:=by simp only [decide_eq_true_eq] at q; omega
   have ea:=areBytes_uR d.Secs[i]
   have fa:=bytesOf_uR d.Secs[i]
   have k2:=List.getElem?_eq_getElem k1
   try simp -implicitDefEqProofs (maxSteps:=1000000) only [go_sem,q,k2,ea,fa,eL]
   repeat refine ⟨sc,?_⟩
   try exact sf
   exact ⟨i + 1,by rw [IntWalk.i64_in _ (by omega)]; rfl,k1,by omega⟩
def x_Cb:FnX:=⟨11,[.tmp 4],
  .q [.i 4 0]
 (.q [.m 5 0,.B 6 .rem 5 2,.op 7 (.bin .mul (.i 30) (.t 6)),.op 8 (.bin .add (.i 2) (.t 7)),.m 9 1,.b 10 .add 8 9,.m 4 10]
 .ret)⟩
theorem r_Cb {Te:TE}:C_Cb (RF Te x_Cb):=by
 intro gen place
 refine X0 x_Cb.eq_1 ?_
 try rfl
def x_Ew:FnX:=⟨11,[.tmp 4],
  .q [.i 4 0]
 (.q [.m 5 0,.B 6 .rem 5 2,.op 7 (.bin .mul (.i 30) (.t 6)),.op 8 (.bin .add (.i 2) (.t 7)),.m 9 1,.b 10 .add 8 9,.m 4 10]
 .ret)⟩
theorem r_Ew {Te:TE}:C_Ew (RF Te x_Ew):=by
 intro gen place
 refine X0 x_Ew.eq_1 ?_
 try rfl
def x_C3:FnX:=⟨38,[.cell 6 (some 4)],
  .q [.v 3 0,.op 6 (.alloc [.nils 1,.nils 2,.i 0,.F])]
 (.seq (.q [.m 9 2,.n 10 9,.i 11 0]
 (.block 0 (.loop [1,2,3,6,9,10,11] (.q [.b 12 .lss 11 10]
 (.seq (.cond 12 .skip (.exit 0))
 (.seq (.block 1 (.q [.m 13 11,.x 14 13 9 11,.L 15 13 14,.op 8 (.alloc [.i 0,.e,.i 0,.nils 1,.i 0,.nils 1,.i 0,.F,.e,.i 0,.i 0,.i 0,.i 0]),.m 7 13,.s 100001 13 8 15]
 (.draw [.L 16 4 3,.m 17 1,.m 18 7,.c 19 258 [17,18],.m 20 1,.m 21 7,.L 22 13 8,.c 23 259 [20,21,22],.c 24 257 [16,19,23],.s 100002 4 3 24] [[],[],[],[1,2],[],[],[],[4,5,6,3],[0,3,7,7],[8,8,0,1,2,3,4,5,6,7,8]])))
 (.reg [.B 25 .add 11 1,.m 11 25])))))))
 (.norm [1,2,3,6] (.q [.L 26 4 3,.c 27 260 [26],.s 100003 4 3 27]
 (.seq (.draw [.L 28 4 3,.m 29 1,.B 30 .rem 29 2,.m 31 1,.m 32 2,.n 33 32,.c 34 293 [31,33],.c 35 257 [28,30,34],.s 100004 4 3 35] [[],[],[1],[],[],[4],[3,5],[0,2,6,6],[7,7,0,1,2,3,4,5,6,7]])
 (.q [.L 36 4 3,.c 37 260 [36],.s 100005 4 6 37]
 .ret)))))⟩
theorem r_C3 {Te:TE} (c_Cb:C_Cb Te) (c_Aw:C_Aw Te) (c_Bi:C_Bi Te) (c_Af:C_Af Te) (c_Ah:C_Ah Te):C_C3 (RF Te x_C3):=by
 intro d gen recs hd hr
 have hrl:=hr.1
 refine X0 x_C3.eq_1 ?_
 refine loop_of (σ:=Bool×Nat×DevV) (fun x=>cond x.1 (⟨[(1,.one (.pv (.int .i64 gen))),(2,.one (.ro 13 (recs.map (RecV.enc false)))),(3,.bp 3 0),(6,.bp 6 0),(9,.one (.ro 13 (recs.map (RecV.enc false)))),(10,.one (.pv (.int .i64 recs.length))),(11,.one (.pv (.int .i64 x.2.1)))],[(3,[.rf 41 0 [] 1 0 x.2.2.Secs.length,.rf 41 1 [] 2 0 x.2.2.Cache.length,.pv (.int .i64 x.2.2.Fuse),.pv (.bool x.2.2.Down)]),(6,[.nils 1,.nils 2,.pv (.int .i64 0),.pv (.bool false)])],[(0,d.enc false),(1,[iT gen]),(2,[slT false 13 (RecV.enc false) recs]),(41,x.2.2.enc true)]⟩) (⟨[(1,.one (.pv (.int .i64 gen))),(2,.one (.ro 13 (recs.map (RecV.enc false)))),(3,.bp 3 0),(6,.bp 6 0),(9,.one (.ro 13 (recs.map (RecV.enc false)))),(10,.one (.pv (.int .i64 recs.length))),(11,.one (.pv (.int .i64 x.2.1)))],[(3,[.ro 1 (x.2.2.Secs.map (secR false)),.ro 2 (x.2.2.Cache.map (WrV.enc false)),.pv (.int .i64 x.2.2.Fuse),.pv (.bool x.2.2.Down)]),(6,[.nils 1,.nils 2,.pv (.int .i64 0),.pv (.bool false)])],[(0,d.enc false),(1,[iT gen]),(2,[slT false 13 (RecV.enc false) recs])]⟩)) (fun x=>x.2.1≤recs.length∧x.2.2=layN gen recs d x.2.1∧x.2.2.ok=true∧(x.1=false→x.2.1=0)) (fun x=>recs.length - x.2.1) (false,0,d) ?_ ⟨Nat.zero_le _,rfl,hd,fun _=>rfl⟩ ?_
 ·simp -implicitDefEqProofs (maxSteps:=1000000) only [go_sem]
  try rfl
 ·rintro ⟨b,i,D⟩ ⟨hi,hD,hk,hb⟩
  simp only at hi hD hk hb
  cases b
  ·cases q:decide ((i:Int) < (recs.length:Int))
   ·skip
    have k0:i=recs.length:=by simp only [decide_eq_false_iff_not] at q; omega
    have e:((D.flush).write (gen.tmod 2) (headOf gen recs.length)).flush=layDev gen recs d:=by rw [hD,k0]; rfl
    have hh:=headOf_len gen recs.length
    have f1:=flush_ok hk
    have f2:=write_ok f1 (gen.tmod 2) (headOf gen recs.length)
    refine G1 q ?_
    refine C0 (c_Af D hk) ?_
    refine C0 (c_Ah _ _) ?_
    refine .of (c_Bi D.flush _ _ f1 (by omega)) ?_
    try simp -implicitDefEqProofs (maxSteps:=1000000) only [go_sem,take_all]
    repeat refine ⟨sc,?_⟩
    try exact sf
    refine .of (c_Af _ f2) ?_
    try simp -implicitDefEqProofs (maxSteps:=1000000) only [go_sem,take_all,e,DevV.enc]
    repeat refine ⟨sc,?_⟩
    try exact sf
    try rfl
   ·skip
    have k1:i < recs.length:=by simp only [decide_eq_true_eq] at q; omega
    have hp:=putRec_len gen i recs[i]
    have hin:=hr.2 _ (List.getElem_mem k1)
    have es:=layN_step gen d k1
    rw [← hD] at es
    refine G2 q (List.getElem?_eq_getElem k1) ?_
    refine C0 (c_Cb _ _) ?_
    refine C0 (c_Aw _ _ recs[i] hin) ?_
    refine .of (c_Bi D _ _ hk (by omega)) ?_
    try simp -implicitDefEqProofs (maxSteps:=1000000) only [go_sem,take_all]
    repeat refine ⟨sc,?_⟩
    try exact sf
    refine ⟨(true,i + 1,D.write (secOf gen i) (putRec gen i recs[i])),?_,⟨k1,es,write_ok hk _ _,fun h=>by cases h⟩,by simp only; omega⟩
    rw [IntWalk.i64_in _ (by omega)]
    rfl
  ·cases q:decide ((i:Int) < (recs.length:Int))
   ·skip
    have k0:i=recs.length:=by simp only [decide_eq_false_iff_not] at q; omega
    have e:((D.flush).write (gen.tmod 2) (headOf gen recs.length)).flush=layDev gen recs d:=by rw [hD,k0]; rfl
    have hh:=headOf_len gen recs.length
    have f1:=flush_ok hk
    have f2:=write_ok f1 (gen.tmod 2) (headOf gen recs.length)
    refine G1 q ?_
    refine C0 (c_Af D hk) ?_
    refine C0 (c_Ah _ _) ?_
    refine .of (c_Bi D.flush _ _ f1 (by omega)) ?_
    try simp -implicitDefEqProofs (maxSteps:=1000000) only [go_sem,take_all]
    repeat refine ⟨sc,?_⟩
    try exact sf
    refine .of (c_Af _ f2) ?_
    try simp -implicitDefEqProofs (maxSteps:=1000000) only [go_sem,take_all,e,DevV.enc]
    repeat refine ⟨sc,?_⟩
    try exact sf
    try rfl
   ·skip
    have k1:i < recs.length:=by simp only [decide_eq_true_eq] at q; omega
    have hp:=putRec_len gen i recs[i]
    have hin:=hr.2 _ (List.getElem_mem k1)
    have es:=layN_step gen d k1
    rw [← hD] at es
    refine G2 q (List.getElem?_eq_getElem k1) ?_
    refine C0 (c_Cb _ _) ?_
    refine C0 (c_Aw _ _ recs[i] hin) ?_
    refine .of (c_Bi D _ _ hk (by omega)) ?_
    try simp -implicitDefEqProofs (maxSteps:=1000000) only [go_sem,take_all]
    repeat refine ⟨sc,?_⟩
    try exact sf
    refine ⟨(true,i + 1,D.write (secOf gen i) (putRec gen i recs[i])),?_,⟨k1,es,write_ok hk _ _,fun h=>by cases h⟩,by simp only; omega⟩
    rw [IntWalk.i64_in _ (by omega)]
    rfl
def x_Bj:FnX:=⟨22,[.cell 4 (some 6)],
  .q [.v 2 0,.op 4 (.alloc [.i 0,.i 0,.i 0,.e,.e,.i 0])]
 (.q [.f 6 2 1,.l 7 6,.f 8 2 3,.l 9 8,.f 10 2 4,.l 11 10,.m 12 1,.op 13 (.build [.i 0,.i 0,.i 0,.e,.e,.i 0] [(0,1,(.i 2)),(1,1,(.t 7)),(2,1,(.t 9)),(3,1,(.t 11)),(5,1,(.t 12))]),.op 5 (.alloc [.i 0,.i 0,.i 0,.e,.e,.i 0]),.s 100001 6 5 13]
 (.seq (.q [.f 14 2 0,.l 15 14,.B 16 .eql 15 3]
 (.c 16 (.draw [.f 17 2 5,.l 18 17,.f 19 5 0,⟨none,none,100002,.store 1 (.t 19) (.i 1)⟩,.f 20 5 4,.s 100003 1 20 18] [[],[0],[],[2],[0,1,2,3],[4,1,3,0,1,2,3]])))
 (.q [.L 21 6 5,.s 100004 6 4 21]
 .ret)))⟩
theorem r_Bj {Te:TE}:C_Bj (RF Te x_Bj):=by
 intro m code
 refine X0 x_Bj.eq_1 ?_
 cases g:(m.Kind==3)
 ·try simp -implicitDefEqProofs (maxSteps:=1000000) only [go_sem,g,actV]
  repeat refine ⟨sc,?_⟩
  try exact sf
  try rfl
 ·try simp -implicitDefEqProofs (maxSteps:=1000000) only [go_sem,g,actV]
  repeat refine ⟨sc,?_⟩
  try exact sf
  try rfl
def x_Fa:FnX:=⟨22,[.cell 4 (some 6)],
  .q [.v 2 0,.op 4 (.alloc [.i 0,.i 0,.i 0,.e,.e,.i 0])]
 (.q [.f 6 2 1,.l 7 6,.f 8 2 3,.l 9 8,.f 10 2 4,.l 11 10,.f 12 2 5,.l 13 12,.m 14 1,.op 15 (.build [.i 0,.i 0,.i 0,.e,.e,.i 0] [(0,1,(.i 1)),(1,1,(.t 7)),(2,1,(.t 9)),(3,1,(.t 11)),(4,1,(.t 13)),(5,1,(.t 14))]),.op 5 (.alloc [.i 0,.i 0,.i 0,.e,.e,.i 0]),.s 100001 6 5 15]
 (.seq (.q [.f 16 2 0,.l 17 16,.B 18 .eql 17 4]
 (.c 18 (.q [.f 19 5 0,⟨none,none,100002,.store 1 (.t 19) (.i 2)⟩]
 (.reg [.f 20 5 4,⟨none,none,100003,.store 1 (.t 20) (.k (.one (.pv (.string ⟨#[]⟩))))⟩]))))
 (.q [.L 21 6 5,.s 100004 6 4 21]
 .ret)))⟩
theorem r_Fa {Te:TE}:C_Fa (RF Te x_Fa):=by
 intro m code h
 refine X0 x_Fa.eq_1 ?_
 cases g:(m.Kind==3)
 ·have g4:(m.Kind==4)=true:=by simp only [beq_iff_eq,beq_eq_false_iff_ne] at g ⊢; omega
  try simp -implicitDefEqProofs (maxSteps:=1000000) only [go_sem,g,g4,actV]
  repeat refine ⟨sc,?_⟩
  try exact sf
  try rfl
 ·have g4:(m.Kind==4)=false:=by simp only [beq_iff_eq,beq_eq_false_iff_ne] at g ⊢; omega
  try simp -implicitDefEqProofs (maxSteps:=1000000) only [go_sem,g,g4,actV]
  repeat refine ⟨sc,?_⟩
  try exact sf
  try rfl
def x_Bm:FnX:=⟨16,[.tmp 4],
  .q [.v 2 0,.v 3 1,.F 4]
 (.q [.L 5 8 3,.c 6 159 [5],.m 7 6,.y 7 (.f 8 3 2),.y 7 (.l 9 8),.y 7 (.op 10 (.call 90 [0,0,0] [(.t 9),(.i 3),(.i 4)])),.a 11 7 10,.m 12 11,.y 12 (.L 13 10 2),.y 12 (.c 14 82 [13]),.a 15 12 14,.m 4 15]
 .ret)⟩
theorem r_Bm {Te:TE} (c_Al:C_Al Te) (c_Ch:C_Ch Te) (c_Bz:C_Bz Te):C_Bm (RF Te x_Bm):=by
 intro n m hn
 refine X0 x_Bm.eq_1 ?_
 refine C0 (c_Al m) ?_
 cases g:m.ok
 ·exact F0
 refine G0 ?_
 refine C0 (c_Ch _ _ _) ?_
 cases g2:win m.To 3 4
 ·exact F0
 refine G0 ?_
 exact D0 (c_Bz n (hn.mono (by decide)))
def x_Ad:FnX:=⟨54,[.tmp 4,.tmp 5,.tmp 6],
  .q [.i 4 0,.i 5 0,.F 6]
 (.seq (.q [.m 9 1,.B 10 .lss 9 0,.m 11 10,.z 11 (.m 12 1),.z 11 (.m 13 0),.z 11 (.n 14 13),.z 11 (.b 15 .geq 12 14),.r 16 11 15]
 (.c 16 (.q [.i 4 0,.i 5 0,.F 6]
 .ret)))
 (.seq (.q [.m 17 0,.m 18 1,.x 19 1 17 18,.l 20 19,.op 21 (.bin .leq (.t 20) (.k (.one (.pv (.int .u8 127)))))]
 (.c 21 (.q [.m 22 0,.m 23 1,.x 24 1 22 23,.l 25 24,.op 26 (.conv (.int .i64) (.t 25)),.m 27 1,.B 28 .add 27 1,.m 4 26,.m 5 28,.T 6]
 .ret)))
 (.seq (.q [.m 29 1,.B 30 .add 29 1,.m 31 0,.n 32 31,.b 33 .eql 30 32]
 (.c 33 (.q [.i 4 0,.i 5 0,.F 6]
 .ret)))
 (.seq (.draw [.m 35 0,.m 36 1,.x 37 1 35 36,.l 38 37,.op 39 (.conv (.int .i64) (.t 38)),.m 40 0,.m 41 1,.B 42 .add 41 1,.x 43 1 40 42,.l 44 43,.op 45 (.conv (.int .i64) (.t 44)),.c 46 324 [39,45],.m 34 46,.e 47 34 0,.e 48 34 1,.m 7 47,.m 8 48] [[],[],[0,1],[2],[3],[],[],[6],[5,7],[8],[9],[4,10],[11],[12],[12],[13,11,0,1,2,3,4,5,6,7,8,9,10,11,12,13],[14,15,0,1,2,3,4,5,6,7,8,9,10,11,12,13,14,15]])
 (.seq (.q [.m 49 8,.N 50 49]
 (.c 50 (.q [.i 4 0,.i 5 0,.F 6]
 .ret)))
 (.q [.m 51 7,.m 52 1,.B 53 .add 52 2,.m 4 51,.m 5 53,.T 6]
 .ret))))))⟩
theorem r_Ad {Te:TE} (c_Au:C_Au Te):C_Ad (RF Te x_Ad):=by
 intro b i hb
 refine run0 ?_
 by_cases hi:0≤i∧i < b.length
 ·obtain ⟨k,rfl⟩:∃ k:Nat,i=k:=⟨i.toNat,by omega⟩
  have hk:k < b.length:=by omega
  have eb:b[k].toNat=byteN (b.drop k) 0:=byteN_drop (j:=0) hk
  have hlt:=byteN_lt (b.drop k) 0
  have hlt1:=byteN_lt (b.drop k) 1
  have w3:IntKind.i64.wrap ((byteN (b.drop k) 0:Nat):Int)=(byteN (b.drop k) 0:Nat):=IntWalk.i64_in _ (by omega)
  have w4:IntKind.i64.wrap ((byteN (b.drop k) 1:Nat):Int)=(byteN (b.drop k) 1:Nat):=IntWalk.i64_in _ (by omega)
  have w5:IntKind.i64.wrap ((k:Int) + 1)=(k:Int) + 1:=IntWalk.i64_in _ (by omega)
  have w6:IntKind.i64.wrap ((k:Int) + 2)=(k:Int) + 2:=IntWalk.i64_in _ (by omega)
  have w7:((k:Int) + 1).toNat=k + 1:=by omega
  have q8:decide ((k:Int) < 0)=false:=decide_eq_false (by omega)
  have q9:decide ((k:Int)≥(b.length:Int))=false:=decide_eq_false (by omega)
  cases q:decide (((byteN (b.drop k) 0:Nat):Int)≤127)
  ·have h1:¬ byteN (b.drop ((k:Nat):Int).toNat) 0 < 128:=by rw [Int.toNat_natCast]; simp only [decide_eq_false_iff_not] at q; omega
   cases q2:((k:Int) + 1==(b.length:Int))
   ·have h3:(k:Int) + 1 < b.length:=by
     have:(k:Int) + 1≠(b.length:Int):=by simpa using q2
     omega
    have hk1:k + 1 < b.length:=by omega
    have eb1:b[k + 1].toNat=byteN (b.drop k) 1:=byteN_drop (j:=1) hk1
    simp -implicitDefEqProofs (maxSteps:=1000000) only [x_Ad,go_sem,q,q2,q8,q9,List.getElem?_eq_getElem hk,eb,w3,w5,w7,List.getElem?_eq_getElem hk1,eb1,w4]
    repeat refine ⟨sc,?_⟩
    try exact sf
    refine .of (c_Au _ _ (by omega)) ?_
    try simp -implicitDefEqProofs (maxSteps:=1000000) only [go_sem]
    repeat refine ⟨sc,?_⟩
    try exact sf
    cases q3:(pairSign ((byteN (b.drop k) 0:Nat):Int) ((byteN (b.drop k) 1:Nat):Int)).2
    ·have e:=euc_bad hi h1 q3
     exact F2 q3 e
    ·have e:=euc_two hi h1 h3 q3
     exact F3 q3 e w6
   ·have e:=euc_end hi h1 (by have:=eq_of_beq q2; omega)
    simp -implicitDefEqProofs (maxSteps:=1000000) only [x_Ad,go_sem,q,q2,q8,q9,List.getElem?_eq_getElem hk,eb,w3,w5,e]
    repeat refine ⟨sc,?_⟩
    try exact sf
  ·have e:=euc_one hi (by rw [Int.toNat_natCast]; simp only [decide_eq_true_eq] at q; omega)
   simp -implicitDefEqProofs (maxSteps:=1000000) only [x_Ad,go_sem,q,q8,q9,List.getElem?_eq_getElem hk,eb,w3,w5,e]
   repeat refine ⟨sc,?_⟩
   try exact sf
 ·have e:=euc_no hi
  cases q8:decide (i < 0)
  ·have q9:decide (i≥(b.length:Int))=true:=by simp only [decide_eq_false_iff_not] at q8; exact decide_eq_true (by omega)
   simp -implicitDefEqProofs (maxSteps:=1000000) only [x_Ad,go_sem,q8,q9,e]
   repeat refine ⟨sc,?_⟩
   try exact sf
  ·simp -implicitDefEqProofs (maxSteps:=1000000) only [x_Ad,go_sem,q8,e]
   repeat refine ⟨sc,?_⟩
   try exact sf
def x_D6:FnX:=⟨52,[.tmp 4,.tmp 5,.tmp 6],
  .q [.i 4 0,.i 5 0,.F 6]
 (.seq (.q [.m 9 1,.m 10 0,.n 11 10,.B 12 .sub 11 1,.op 13 (.call 120 [0,0,0] [(.t 9),(.i 0),(.t 12)]),.N 14 13]
 (.c 14 (.q [.i 4 0,.i 5 0,.F 6]
 .ret)))
 (.seq (.q [.m 15 0,.m 16 1,.x 17 1 15 16,.l 18 17,.op 19 (.bin .lss (.t 18) (.k (.one (.pv (.int .u8 128)))))]
 (.c 19 (.q [.m 20 0,.m 21 1,.x 22 1 20 21,.l 23 22,.op 24 (.conv (.int .i64) (.t 23)),.m 25 1,.B 26 .add 25 1,.m 4 24,.m 5 26,.T 6]
 .ret)))
 (.seq (.q [.m 27 1,.B 28 .add 27 1,.m 29 0,.n 30 29,.b 31 .geq 28 30]
 (.c 31 (.q [.i 4 0,.i 5 0,.F 6]
 .ret)))
 (.seq (.draw [.m 33 0,.m 34 1,.x 35 1 33 34,.l 36 35,.op 37 (.conv (.int .i64) (.t 36)),.m 38 0,.m 39 1,.B 40 .add 39 1,.x 41 1 38 40,.l 42 41,.op 43 (.conv (.int .i64) (.t 42)),.c 44 330 [37,43],.m 32 44,.e 45 32 0,.e 46 32 1,.m 7 45,.m 8 46] [[],[],[0,1],[2],[3],[],[],[6],[5,7],[8],[9],[4,10],[11],[12],[12],[13,11,0,1,2,3,4,5,6,7,8,9,10,11,12,13],[14,15,0,1,2,3,4,5,6,7,8,9,10,11,12,13,14,15]])
 (.seq (.q [.m 47 8,.N 48 47]
 (.c 48 (.q [.i 4 0,.i 5 0,.F 6]
 .ret)))
 (.q [.m 49 7,.m 50 1,.B 51 .add 50 2,.m 4 49,.m 5 51,.T 6]
 .ret))))))⟩
theorem r_D6 {Te:TE} (c_Fo:C_Fo Te) (c_Do:C_Do Te):C_D6 (RF Te x_D6):=by
 intro b i hb
 have w1:IntKind.i64.wrap ((b.length:Int) - 1)=(b.length:Int) - 1:=IntWalk.i64_in _ (by omega)
 by_cases hi:0≤i∧i < b.length
 ·obtain ⟨k,rfl⟩:∃ k:Nat,i=k:=⟨i.toNat,by omega⟩
  have hk:k < b.length:=by omega
  have eb:b[k].toNat=byteN (b.drop k) 0:=byteN_drop (j:=0) hk
  have hlt:=byteN_lt (b.drop k) 0
  have hlt1:=byteN_lt (b.drop k) 1
  have w3:IntKind.i64.wrap ((byteN (b.drop k) 0:Nat):Int)=(byteN (b.drop k) 0:Nat):=IntWalk.i64_in _ (by omega)
  have w4:IntKind.i64.wrap ((byteN (b.drop k) 1:Nat):Int)=(byteN (b.drop k) 1:Nat):=IntWalk.i64_in _ (by omega)
  have w5:IntKind.i64.wrap ((k:Int) + 1)=(k:Int) + 1:=IntWalk.i64_in _ (by omega)
  have w6:IntKind.i64.wrap ((k:Int) + 2)=(k:Int) + 2:=IntWalk.i64_in _ (by omega)
  have w7:((k:Int) + 1).toNat=k + 1:=by omega
  have g:win (k:Int) 0 ((b.length:Int) - 1)=true:=by simp only [win,Bool.and_eq_true,decide_eq_true_eq]; omega
  refine X1 x_D6.eq_1 w1 ?_
  refine C4 (c_Fo _ _ _) g (List.getElem?_eq_getElem hk) eb w3 ?_
  cases q:decide (((byteN (b.drop k) 0:Nat):Int) < 128)
  ·have h1:¬ byteN (b.drop ((k:Nat):Int).toNat) 0 < 128:=by rw [Int.toNat_natCast]; simp only [decide_eq_false_iff_not] at q; omega
   cases q2:decide ((k:Int) + 1≥(b.length:Int))
   ·have h3:(k:Int) + 1 < b.length:=by simp only [decide_eq_false_iff_not] at q2; omega
    have hk1:k + 1 < b.length:=by omega
    have eb1:b[k + 1].toNat=byteN (b.drop k) 1:=byteN_drop (j:=1) hk1
    try simp -implicitDefEqProofs (maxSteps:=1000000) only [go_sem,q,q2,List.getElem?_eq_getElem hk,eb,w3,w5,w7,List.getElem?_eq_getElem hk1,eb1,w4]
    repeat refine ⟨sc,?_⟩
    try exact sf
    refine .of (c_Do _ _ (by omega)) ?_
    try simp -implicitDefEqProofs (maxSteps:=1000000) only [go_sem]
    repeat refine ⟨sc,?_⟩
    try exact sf
    cases q3:(pairSign ((byteN (b.drop k) 0:Nat):Int) ((byteN (b.drop k) 1:Nat):Int)).2
    ·have e:=euc_bad hi h1 q3
     exact F2 q3 e
    ·have e:=euc_two hi h1 h3 q3
     exact F3 q3 e w6
   ·have e:=euc_end hi h1 (by simp only [decide_eq_true_eq] at q2; omega)
    try simp -implicitDefEqProofs (maxSteps:=1000000) only [go_sem,q,q2,List.getElem?_eq_getElem hk,eb,w3,w5,e]
    repeat refine ⟨sc,?_⟩
    try exact sf
  ·have e:=euc_one hi (by rw [Int.toNat_natCast]; simp only [decide_eq_true_eq] at q; omega)
   try simp -implicitDefEqProofs (maxSteps:=1000000) only [go_sem,q,List.getElem?_eq_getElem hk,eb,w3,w5,e]
   repeat refine ⟨sc,?_⟩
   try exact sf
 ·have e:=euc_no hi
  have g:win i 0 ((b.length:Int) - 1)=false:=by
   simp only [win,Bool.and_eq_false_imp,decide_eq_true_eq,decide_eq_false_iff_not]
   omega
  refine X1 x_D6.eq_1 w1 ?_
  exact D2 (c_Fo _ _ _) g e
def x_Dr:FnX:=⟨38,[.tmp 4],
  .q [.v 3 1,.op 4 (.mv (.k (.one (.nils 1))))]
 (.q [.op 6 (.bslice 1 []),.m 7 0,.op 8 (.app 1 1 (.t 6) (.t 7)),.m 5 8]
 (.seq (.q [.L 9 7 3,.c 10 289 [9],.N 11 10]
 (.c 11 (.q [.m 12 5,.m 4 12]
 .ret)))
 (.seq (.draw [.m 13 5,.f 14 3 0,.l 15 14,.c 16 284 [13,15],.f 17 3 5,.l 18 17,.op 19 (.conv (.int .u8) (.t 18)),.f 20 3 6,.l 21 20,.c 22 336 [21],.op 23 (.bslice 1 [(.t 19),(.t 22)]),.op 24 (.app 1 1 (.t 16) (.t 23)),.m 5 24] [[],[],[1],[0,2],[],[4],[5],[],[7],[8,3],[6,9],[3,10,9],[11,11,0,1,2,3,4,5,6,7,8,9,10,11]])
 (.seq (.q [.L 25 7 3,.c 26 291 [25]]
 (.c 26 (.reg [.m 27 5,.f 28 3 1,.L 29 2 28,.op 30 (.call 337 [1,0] [(.t 27),(.t 29)]),.m 5 30])))
 (.seq (.q [.L 31 7 3,.c 32 196 [31]]
 (.c 32 (.reg [.m 33 5,.f 34 3 3,.L 35 2 34,.op 36 (.call 337 [1,0] [(.t 33),(.t 35)]),.m 5 36])))
 (.q [.m 37 5,.m 4 37]
 .ret))))))⟩
theorem r_Dr {Te:TE} (c_Dz:C_Dz Te) (c_Dt:C_Dt Te) (c_Eh:C_Eh Te) (c_Gi:C_Gi Te) (c_Ei:C_Ei Te) (c_Gg:C_Gg Te):C_Dr (RF Te x_Dr):=by
 intro b r hb h
 obtain ⟨h1,h2,h3⟩:=h
 have l0:=putText_len b r.Key
 have l1:=putRow1_len b r
 have l2:=putRow2_len b r
 refine X0 x_Dr.eq_1 ?_
 refine C0 (c_Dz r ⟨h1,h2,h3⟩) ?_
 cases g:r.ok
 ·try simp -implicitDefEqProofs (maxSteps:=1000000) only [go_sem,putRow,g,if_false,reduceCtorEq]
  repeat refine ⟨sc,?_⟩
  try exact sf
 have ep:putRow b r=putRow3 b r:=if_pos g
 refine G0 ?_
 refine C0 (c_Dt b r.Key (by omega) h1) ?_
 refine .of (c_Eh r.Aside) ?_
 try simp -implicitDefEqProofs (maxSteps:=1000000) only [go_sem,mkU_wrap,app2B,take2B]
 repeat refine ⟨sc,?_⟩
 try exact sf
 have e1:putText b r.Key++[mkU r.Has,bif r.Aside then 1 else 0]=putRow1 b r:=rfl
 have e2:(putText b r.Key).length + 2=(putRow1 b r).length:=by rw [putRow1,List.length_append]; rfl
 simp only [e1,e2]
 have gw:=win13 (rowOk_win g)
 refine C0 (c_Gi r gw) ?_
 by_cases q2:r.Has=2
 ·have k2:decide (r.Has≠2)=false:=by simp only [ne_eq,q2,not_true_eq_false,decide_false]
  have k1:decide (r.Has≠1)=true:=decide_eq_true (by omega)
  have e3:putRow2 b r=putRow1 b r:=if_pos q2
  have e4:putRow3 b r=putCell (putRow1 b r) r.New:=by rw [putRow3,if_neg (by omega),e3]
  refine G1 k2 ?_
  refine C1 (c_Gg r gw) k1 ?_
  exact D2 (c_Ei (putRow1 b r) r.New (by omega) h3) ep e4
 ·have k2:decide (r.Has≠2)=true:=decide_eq_true q2
  have e3:putRow2 b r=putCell (putRow1 b r) r.Old:=if_neg q2
  have tt:=c_Ei (putRow1 b r) r.Old (by omega) h2
  rw [← e3] at tt
  refine G1 k2 ?_
  refine C0 (tt) ?_
  refine C0 (c_Gg r gw) ?_
  by_cases q1:r.Has=1
  ·have k1:decide (r.Has≠1)=false:=by simp only [ne_eq,q1,not_true_eq_false,decide_false]
   have e4:putRow3 b r=putRow2 b r:=if_pos q1
   exact F3 k1 ep e4
  ·have k1:decide (r.Has≠1)=true:=decide_eq_true q1
   have e4:putRow3 b r=putCell (putRow2 b r) r.New:=if_neg q1
   refine G1 k1 ?_
   exact D2 (c_Ei (putRow2 b r) r.New (by omega) h3) ep e4
def x_D3:FnX:=⟨11,[.cell 2 (some 10),.cell 3 (some 8)],
  .q [.op 2 (.alloc [.nils 1,.nils 2,.i 0,.F,.nils 7,.i 0,.nils 3,.i 0,.i 0,.i 0]),.op 3 (.alloc [.i 0,.i 0,.i 0,.i 0,.e,.e,.i 0,.i 0])]
 (.q [.m 5 0,.c 6 58 [5],.m 4 6]
 (.q [.m 7 4,.op 8 (.call 59 [5] [(.t 7)]),.e 9 8 0,.e 10 8 1,.s 100001 10 2 9,.s 100002 8 3 10]
 .ret))⟩
theorem r_D3 {Te:TE} (c_Fr:C_Fr Te) (c_Fb:C_Fb Te):∀ (l:List UInt8) (hl:l.length≤2 ^ 31),∃ r0,(∃ (n:NodeV) (m:Msg),(n.In (2 ^ 20)∧msgS m)∧r0=(⟨[.agg (n.enc true),.agg m.row],[[slT false 1 uR l]]⟩:Res))∧RunFn Te x_D3 [.one (slT false 1 uR l)] r0:=by
 intro l hl
 refine some_of (Nat.le_of_ble_eq_true rfl) (by rfl) ?_
 simp -implicitDefEqProofs (maxSteps:=1000000) only [x_D3,go_sem]
 repeat refine ⟨sc,?_⟩
 try exact sf
 obtain ⟨c,hc,ht⟩:=c_Fr l hl
 refine C0 (ht) ?_
 obtain ⟨n,m,d,⟨⟨hn,_⟩,hm,hd⟩,ht⟩:=c_Fb c hc
 refine C0 (ht) ?_
 exact ⟨n,m,⟨hn,hm⟩,rfl⟩
def x_D4:FnX:=⟨22,[.cell 2 (some 10),.cell 3 (some 8)],
  .q [.op 2 (.alloc [.nils 1,.nils 2,.i 0,.F,.nils 7,.i 0,.nils 3,.i 0,.i 0,.i 0]),.op 3 (.alloc [.i 0,.i 0,.i 0,.i 0,.e,.e,.i 0,.i 0])]
 (.q [.m 7 0,.c 8 58 [7],.m 4 8]
 (.q [.m 10 4,.op 11 (.call 59 [5] [(.t 10)]),.m 9 11,.e 12 9 0,.e 13 9 1,.op 5 (.alloc [.nils 1,.nils 2,.i 0,.F,.nils 7,.i 0,.nils 3,.i 0,.i 0,.i 0]),.op 6 (.alloc [.i 0,.i 0,.i 0,.i 0,.e,.e,.i 0,.i 0]),.s 100001 10 5 12,.s 100002 8 6 13]
 (.q [.m 14 4,.op 15 (.bslice 1 [(.i 0),(.i 1),(.i 2),(.i (-1))]),.op 16 (.call 70 [5,1] [(.t 14),(.t 15)]),.f 17 5 0,.f 18 17 0,.f 19 18 2,.s 100003 1 19 16]
 (.seq (.draw [.L 20 10 5,.L 21 8 6,.s 100004 10 2 20,.s 100005 8 3 21] [[],[],[0,0],[1,2,0,1,2]])
 .ret))))⟩
theorem r_D4 {Te:TE} (c_Fr:C_Fr Te) (c_Fb:C_Fb Te) (c_Fp:C_Fp Te):∀ (l:List UInt8) (hl:l.length≤2 ^ 31),∃ r0,(∃ (n:NodeV) (m:Msg),((n.In (2 ^ 20)∧n.S.far30)∧msgS m)∧r0=(⟨[.agg (n.enc true),.agg m.row],[[slT false 1 uR l]]⟩:Res))∧RunFn Te x_D4 [.one (slT false 1 uR l)] r0:=by
 intro l hl
 refine some_of (Nat.le_of_ble_eq_true rfl) (by rfl) ?_
 simp -implicitDefEqProofs (maxSteps:=1000000) only [x_D4,go_sem]
 repeat refine ⟨sc,?_⟩
 try exact sf
 obtain ⟨c,hc,ht⟩:=c_Fr l hl
 refine C0 (ht) ?_
 obtain ⟨n,m,d,⟨⟨hn,hf⟩,hm,hd⟩,ht⟩:=c_Fb c hc
 refine C0 (ht) ?_
 obtain ⟨r,d,⟨_,hd⟩,ht⟩:=c_Fp d [0,1,2,-1] hd (by decide)
 refine C0 (ht) ?_
 exact ⟨⟨⟨⟨n.S.D.Secs,n.S.D.Cache,r,n.S.D.Down⟩,n.S.T,n.S.Gen,n.S.Place⟩,n.Cs⟩,m,⟨⟨hn,hf⟩,hm⟩,rfl⟩
def x_Gi:FnX:=⟨7,[.tmp 2],
  .q [.v 1 0,.F 2]
 (.q [.f 3 1 5,.l 4 3,.B 5 .and 4 1,.B 6 .eql 5 1,.m 2 6]
 .ret)⟩
theorem r_Gi {Te:TE}:C_Gi (RF Te x_Gi):=by
 intro r h
 refine run0 ?_
 have e:=and1_has _ h
 simp -implicitDefEqProofs (maxSteps:=1000000) only [x_Gi,go_sem,e]
 repeat refine ⟨sc,?_⟩
 try exact sf
def x_Gg:FnX:=⟨7,[.tmp 2],
  .q [.v 1 0,.F 2]
 (.q [.f 3 1 5,.l 4 3,.B 5 .and 4 2,.B 6 .eql 5 2,.m 2 6]
 .ret)⟩
theorem r_Gg {Te:TE}:C_Gg (RF Te x_Gg):=by
 intro r h
 refine run0 ?_
 have e:=and2_has _ h
 simp -implicitDefEqProofs (maxSteps:=1000000) only [x_Gg,go_sem,e]
 repeat refine ⟨sc,?_⟩
 try exact sf
def x_Az:FnX:=⟨19,[.tmp 4],
  .q [.op 4 (.mv (.k (.one (.nils 1))))]
 (.seq (.q [.m 5 1,.op 6 (.slen (.t 5)),.B 7 .gtr 6 60]
 (.c 7 (.q [.m 8 0,.op 9 (.bslice 1 [(.t 8)]),.c 10 100 [9],.m 4 10]
 .ret)))
 (.q [.m 11 0,.m 12 1,.op 13 (.slen (.t 12)),.c 14 312 [11,13],.m 15 1,.op 16 (.conv .s2b (.t 15)),.op 17 (.bslice 1 [(.t 14),(.t 16)]),.c 18 100 [17],.m 4 18]
 .ret))⟩
theorem r_Az {Te:TE} (c_C1:C_C1 Te) (c_B0:C_B0 Te):C_Az (RF Te x_Az):=by
 intro b t h ht
 refine run0 ?_
 simp -implicitDefEqProofs only [x_Az,go_sem]
 refine ⟨fun q=>?_,fun q=>?_⟩
 ·have q':(t.size:Int) > 60:=by simpa using q
  simp only [putText,if_pos q']
  refine .of (c_C1 [b] (by rw [flat1]; omega) (by show 1≤2 ^ 31; decide)) ?_
  try simp -implicitDefEqProofs only [go_sem,flat1]
  repeat refine ⟨sc,?_⟩
  try exact sf
 ·have q':¬ ((t.size:Int) > 60):=by simpa using q
  have q3:t.data.toList.length=t.size:=by rw [Array.length_toList]; rfl
  have el:=putW_len b t.size
  simp only [putText,if_neg q']
  refine .of (c_B0 b _ (by omega)) ?_
  try simp -implicitDefEqProofs only [go_sem,ofBytes_eq]
  repeat refine ⟨sc,?_⟩
  try exact sf
  refine .of (c_C1 [putW b t.size,t.data.toList] (by rw [flat2,List.length_append,el]; omega) (by show 2≤2 ^ 31; decide)) ?_
  simp -implicitDefEqProofs only [go_sem,flat2]
  refine ⟨decide_eq_true (Nat.le_refl _),?_⟩
  rw [List.take_of_length_le (by rw [List.length_map,List.length_append]; exact Nat.le_refl _)]
def x_Dk:FnX:=⟨11,[.tmp 2],
  .q [.v 1 0,.F 2]
 (.q [.f 3 1 0,.L 4 9 3,.c 5 119 [4],.m 6 5,.y 6 (.f 7 1 9),.y 6 (.l 8 7),.y 6 (.op 9 (.call 120 [0,0,0] [(.t 8),(.i 1),(.i 5)])),.a 10 6 9,.m 2 10]
 .ret)⟩
theorem r_Dk {Te:TE} (c_E6:C_E6 Te) (c_Fo:C_Fo Te):C_Dk (RF Te x_Dk):=by
 intro n h
 refine run0 ?_
 simp -implicitDefEqProofs (maxSteps:=1000000) only [x_Dk,go_sem,NodeV.ok]
 repeat refine ⟨sc,?_⟩
 try exact sf
 refine C0 (c_E6 n.S h) ?_
 cases g1:n.S.ok
 ·exact F0
 ·refine G0 ?_
  exact D0 (c_Fo _ _ _)
end Go.X

