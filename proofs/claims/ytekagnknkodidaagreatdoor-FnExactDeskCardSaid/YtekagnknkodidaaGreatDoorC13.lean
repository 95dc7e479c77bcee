/- Texts: CVzf_2 CVza CVn CVl CVj CVc CT_3 CVla CEb_8 CU CG CVs. -/
import Derived.Test.YtekagnknkodidaaGreatDoorC04
set_option linter.unusedVariables false
set_option linter.unusedSimpArgs false
namespace Go.X
set_option maxRecDepth 100000
set_option maxHeartbeats 8000000
def x_i_deskChange:FnX:=⟨92,[.cell 6 (some 10),.tmp 7,.tmp 8],
  .q [.v 3 0,.v 4 1,.v 5 2,.op 6 (.alloc [.nils 1,.nils 2,.i 0,.F,.nils 7,.i 0,.nils 3,.i 0,.i 0,.i 0]),.op 7 (.mv (.k (.one (.nils 8)))),.op 8 (.mv (.k (.one (.nils 6))))]
 (.q [.f 16 3 0,.f 17 16 4,.L 18 3 17,.f 19 4 1,.l 20 19,.c 21 61 [18,20],.m 15 21,.e 22 15 0,.e 23 15 1,.op 9 (.alloc [.i 0,.i 0,.i 0]),.s 100001 3 9 22,.m 10 23]
 (.seq (.q [.f 24 4 1,.l 25 24,.f 26 4 3,.l 27 26,.c 28 62 [25,27],.N 29 28,.m 30 29,.z 30 (.m 31 10),.z 30 (.m 32 31),.y 32 (.f 33 9 1),.y 32 (.l 34 33),.y 32 (.f 35 4 3),.y 32 (.l 36 35),.y 32 (.b 37 .gtr 34 36),.z 30 (.a 38 32 37),.r 39 30 38]
 (.c 39 (.q [.L 40 10 3,.c 41 28 [40],.s 100002 10 6 41,.op 7 (.mv (.k (.one (.nils 8)))),.op 8 (.mv (.k (.one (.nils 6))))]
 .ret)))
 (.q [.L 43 10 3,.f 44 4 1,.l 45 44,.f 46 4 3,.l 47 46,.f 48 4 4,.l 49 48,.c 50 63 [43,45,47,49],.m 42 50,.e 51 42 0,.e 52 42 1,.e 53 42 2,.op 11 (.alloc [.nils 1,.nils 2,.i 0,.F,.nils 7,.i 0,.nils 3,.i 0,.i 0,.i 0]),.s 100003 10 11 51,.m 12 52,.m 13 53]
 (.seq (.q [.f 54 4 0,.l 55 54,.B 56 .eql 55 3]
 (.c 56 (.reg [.L 58 10 3,.f 59 4 1,.l 60 59,.f 61 4 3,.l 62 61,.f 63 4 4,.l 64 63,.f 65 4 5,.l 66 65,.c 67 64 [58,60,62,64,66],.m 57 67,.e 68 57 0,.e 69 57 1,.e 70 57 2,.s 100004 10 11 68,.m 12 69,.m 13 70])))
 (.q [.op 71 (.bslice 6 []),.m 14 71]
 (.seq (.q [.m 72 13]
 (.c 72 (.reg [.m 73 14,.L 74 8 4,.m 75 12,.c 76 65 [74,75],.op 77 (.bslice 6 [(.t 76)]),.op 78 (.app 6 64 (.t 73) (.t 77)),.m 14 78])))
 (.seq (.q [.f 79 11 0,.f 80 79 0,.f 81 80 3,.l 82 81]
 (.c 82 (.q [.L 83 10 11,.m 84 14,.s 100005 10 6 83,.op 7 (.mv (.k (.one (.nils 8)))),.m 8 84]
 .ret)))
 (.q [.m 85 12,.f 86 5 0,⟨none,none,100006,.store 1 (.t 86) (.i 5)⟩,.f 87 5 7,.s 100007 1 87 85]
 (.seq (.draw [.L 88 10 11,.L 89 8 5,.op 90 (.bslice 8 [(.t 89)]),.m 91 14,.s 100008 10 6 88,.m 7 90,.m 8 91] [[],[],[1],[],[0,0],[2,4,0,1,2,4],[3,5,0,1,2,3,4,5]])
 .ret)))))))))⟩
theorem r_i_deskChange {Te:TE} (c_i_MarkAt:C_i_MarkAt Te) (c_i_mayAsk:C_i_mayAsk Te) (c_i_copyNode:C_i_copyNode Te) (c_i_NodeDel:C_i_NodeDel Te) (c_i_NodePut:C_i_NodePut Te) (c_i_actOf:C_i_actOf Te):C_i_deskChange (RF Te x_i_deskChange):=by
 intro n m a hn hm
 have hL:=hn.len (by decide)
 refine X0 x_i_deskChange.eq_1 ?_
 refine C0 (c_i_MarkAt n.S.T m.From (by have:=hn.2.2; omega)) ?_
 refine C0 (c_i_mayAsk _ _) ?_
 cases g1:(win m.From 1 9&&win m.Seq 1 65535)
 ·have e:n.deskPut m a=(n,[],[]):=by rw [NodeV.deskPut,NodeV.late,g1]; rfl
  refine G1 g1 ?_
  exact D1 (c_i_copyNode n hL) e
 cases g2:lateMark n m
 rotate_left
 ·have e:n.deskPut m a=(n,[],[]):=by rw [NodeV.deskPut,NodeV.late,g1,g2]; rfl
  cases gm:markAt n.S.T.Marks m.From with
  | none=>rw [lateMark,gm] at g2; cases g2
  | some k =>
   rw [lateMark,gm] at g2
   refine G2 g1 g2 ?_
   exact D1 (c_i_copyNode n hL) e
 have e:n.deskPut m a=((n.wrote m).1,bif (n.wrote m).1.S.D.Down then [] else [⟨5,a.From,a.To,a.Seq,a.Key,a.Text,a.N,(n.wrote m).2.1⟩],bif (n.wrote m).2.2 then [actV m (n.wrote m).2.1] else []):=by rw [NodeV.deskPut,NodeV.late,g1,g2]; rfl
 cases gm:markAt n.S.T.Marks m.From with
 | none =>
  refine G1 g1 ?_
  refine C0 (c_i_NodeDel n m.From m.Seq m.Key hn hm.1) ?_
  cases g3:(m.Kind==3)
  ·have ew:n.del m.From m.Seq m.Key=n.wrote m:=by rw [NodeV.wrote,g3]; rfl
   rw [ew]
   refine G1 g3 ?_
   cases g4:(n.wrote m).2.2
   ·cases g5:(n.wrote m).1.S.D.Down
    ·have e3:n.deskPut m a=((n.wrote m).1,[⟨5,a.From,a.To,a.Seq,a.Key,a.Text,a.N,(n.wrote m).2.1⟩],[]):=by rw [e,g4,g5]; rfl
     try simp -implicitDefEqProofs (maxSteps:=1000000) only [go_sem,g4,g5,e3,take_all,take_marks,NodeV.enc]
     repeat refine ⟨sc,?_⟩
     try exact sf
     try rfl
    ·have e3:n.deskPut m a=((n.wrote m).1,[],[]):=by rw [e,g4,g5]; rfl
     try simp -implicitDefEqProofs (maxSteps:=1000000) only [go_sem,g4,g5,e3,take_all,take_marks,NodeV.enc]
     repeat refine ⟨sc,?_⟩
     try exact sf
     try rfl
   ·have g5:=wrote_up g4
    have e3:n.deskPut m a=((n.wrote m).1,[⟨5,a.From,a.To,a.Seq,a.Key,a.Text,a.N,(n.wrote m).2.1⟩],[actV m (n.wrote m).2.1]):=by rw [e,g4,g5]; rfl
    refine G1 g4 ?_
    refine C0 (c_i_actOf m (n.wrote m).2.1) ?_
    try simp -implicitDefEqProofs (maxSteps:=1000000) only [go_sem,g5,e3,take_all,take_marks,NodeV.enc]
    repeat refine ⟨sc,?_⟩
    try exact sf
    try rfl
  ·have ew:n.putIn m.From m.Seq m.Key m.Text=n.wrote m:=by rw [NodeV.wrote,g3]; rfl
   refine G1 g3 ?_
   refine C0 (c_i_NodePut n m.From m.Seq m.Key m.Text hn hm.1 hm.2) ?_
   rw [ew]
   cases g4:(n.wrote m).2.2
   ·cases g5:(n.wrote m).1.S.D.Down
    ·have e3:n.deskPut m a=((n.wrote m).1,[⟨5,a.From,a.To,a.Seq,a.Key,a.Text,a.N,(n.wrote m).2.1⟩],[]):=by rw [e,g4,g5]; rfl
     try simp -implicitDefEqProofs (maxSteps:=1000000) only [go_sem,g4,g5,e3,take_all,take_marks,NodeV.enc]
     repeat refine ⟨sc,?_⟩
     try exact sf
     try rfl
    ·have e3:n.deskPut m a=((n.wrote m).1,[],[]):=by rw [e,g4,g5]; rfl
     try simp -implicitDefEqProofs (maxSteps:=1000000) only [go_sem,g4,g5,e3,take_all,take_marks,NodeV.enc]
     repeat refine ⟨sc,?_⟩
     try exact sf
     try rfl
   ·have g5:=wrote_up g4
    have e3:n.deskPut m a=((n.wrote m).1,[⟨5,a.From,a.To,a.Seq,a.Key,a.Text,a.N,(n.wrote m).2.1⟩],[actV m (n.wrote m).2.1]):=by rw [e,g4,g5]; rfl
    refine G1 g4 ?_
    refine C0 (c_i_actOf m (n.wrote m).2.1) ?_
    try simp -implicitDefEqProofs (maxSteps:=1000000) only [go_sem,g5,e3,take_all,take_marks,NodeV.enc]
    repeat refine ⟨sc,?_⟩
    try exact sf
    try rfl
 | some k =>
  rw [lateMark,gm] at g2
  refine G2 g1 g2 ?_
  refine C0 (c_i_NodeDel n m.From m.Seq m.Key hn hm.1) ?_
  cases g3:(m.Kind==3)
  ·have ew:n.del m.From m.Seq m.Key=n.wrote m:=by rw [NodeV.wrote,g3]; rfl
   rw [ew]
   refine G1 g3 ?_
   cases g4:(n.wrote m).2.2
   ·cases g5:(n.wrote m).1.S.D.Down
    ·have e3:n.deskPut m a=((n.wrote m).1,[⟨5,a.From,a.To,a.Seq,a.Key,a.Text,a.N,(n.wrote m).2.1⟩],[]):=by rw [e,g4,g5]; rfl
     try simp -implicitDefEqProofs (maxSteps:=1000000) only [go_sem,g4,g5,e3,take_all,take_marks,NodeV.enc]
     repeat refine ⟨sc,?_⟩
     try exact sf
     try rfl
    ·have e3:n.deskPut m a=((n.wrote m).1,[],[]):=by rw [e,g4,g5]; rfl
     try simp -implicitDefEqProofs (maxSteps:=1000000) only [go_sem,g4,g5,e3,take_all,take_marks,NodeV.enc]
     repeat refine ⟨sc,?_⟩
     try exact sf
     try rfl
   ·have g5:=wrote_up g4
    have e3:n.deskPut m a=((n.wrote m).1,[⟨5,a.From,a.To,a.Seq,a.Key,a.Text,a.N,(n.wrote m).2.1⟩],[actV m (n.wrote m).2.1]):=by rw [e,g4,g5]; rfl
    refine G1 g4 ?_
    refine C0 (c_i_actOf m (n.wrote m).2.1) ?_
    try simp -implicitDefEqProofs (maxSteps:=1000000) only [go_sem,g5,e3,take_all,take_marks,NodeV.enc]
    repeat refine ⟨sc,?_⟩
    try exact sf
    try rfl
  ·have ew:n.putIn m.From m.Seq m.Key m.Text=n.wrote m:=by rw [NodeV.wrote,g3]; rfl
   refine G1 g3 ?_
   refine C0 (c_i_NodePut n m.From m.Seq m.Key m.Text hn hm.1 hm.2) ?_
   rw [ew]
   cases g4:(n.wrote m).2.2
   ·cases g5:(n.wrote m).1.S.D.Down
    ·have e3:n.deskPut m a=((n.wrote m).1,[⟨5,a.From,a.To,a.Seq,a.Key,a.Text,a.N,(n.wrote m).2.1⟩],[]):=by rw [e,g4,g5]; rfl
     try simp -implicitDefEqProofs (maxSteps:=1000000) only [go_sem,g4,g5,e3,take_all,take_marks,NodeV.enc]
     repeat refine ⟨sc,?_⟩
     try exact sf
     try rfl
    ·have e3:n.deskPut m a=((n.wrote m).1,[],[]):=by rw [e,g4,g5]; rfl
     try simp -implicitDefEqProofs (maxSteps:=1000000) only [go_sem,g4,g5,e3,take_all,take_marks,NodeV.enc]
     repeat refine ⟨sc,?_⟩
     try exact sf
     try rfl
   ·have g5:=wrote_up g4
    have e3:n.deskPut m a=((n.wrote m).1,[⟨5,a.From,a.To,a.Seq,a.Key,a.Text,a.N,(n.wrote m).2.1⟩],[actV m (n.wrote m).2.1]):=by rw [e,g4,g5]; rfl
    refine G1 g4 ?_
    refine C0 (c_i_actOf m (n.wrote m).2.1) ?_
    try simp -implicitDefEqProofs (maxSteps:=1000000) only [go_sem,g5,e3,take_all,take_marks,NodeV.enc]
    repeat refine ⟨sc,?_⟩
    try exact sf
    try rfl
def x_i_RowOf:FnX:=⟨79,[.cell 8 (some 7),.tmp 9],
  .q [.op 8 (.alloc [.e,.i 0,.nils 1,.i 0,.nils 1,.i 0,.F]),.i 9 0]
 (.q [.m 18 3,.op 19 (.call 199 [0,0] [(.i 0),(.t 18)]),.m 17 19,.e 20 17 0,.e 21 17 1,.op 10 (.alloc [.i 0,.nils 1]),.s 100001 2 10 20,.m 11 21]
 (.seq (.q [.m 22 0,.op 23 (.call 57 [0,0,0] [(.t 22),(.i 0),(.i 7)]),.N 24 23,.m 25 24,.z 25 (.m 26 1),.z 25 (.c 27 157 [26]),.z 25 (.N 28 27),.r 29 25 28,.m 30 29,.z 30 (.m 31 2),.z 30 (.op 32 (.call 57 [0,0,0] [(.t 31),(.i 1),(.i 5)])),.z 30 (.N 33 32),.r 34 30 33,.m 35 34,.z 35 (.m 36 11),.z 35 (.N 37 36),.r 38 35 37]
 (.c 38 (.q [.op 39 (.build [.e,.i 0,.nils 1,.i 0,.nils 1,.i 0,.F] []),.s 100002 7 8 39,.i 9 1]
 .ret)))
 (.q [.m 41 2,.m 42 3,.c 43 199 [41,42],.m 40 43,.e 44 40 0,.e 45 40 1,.op 12 (.alloc [.i 0,.nils 1]),.s 100003 2 12 44,.m 13 45]
 (.q [.m 46 1,.L 47 2 12,.op 48 (.build [.e,.i 0,.nils 1,.i 0,.nils 1,.i 0,.F] [(0,1,(.t 46)),(1,2,(.t 47)),(5,1,(.i 1))]),.op 14 (.alloc [.e,.i 0,.nils 1,.i 0,.nils 1,.i 0,.F]),.s 100004 7 14 48]
 (.q [.m 49 1,.L 50 2 10,.op 51 (.build [.e,.i 0,.nils 1,.i 0,.nils 1,.i 0,.F] [(0,1,(.t 49)),(3,2,(.t 50)),(5,1,(.i 2))]),.op 15 (.alloc [.e,.i 0,.nils 1,.i 0,.nils 1,.i 0,.F]),.s 100005 7 15 51]
 (.q [.L 52 7 15,.op 16 (.alloc [.e,.i 0,.nils 1,.i 0,.nils 1,.i 0,.F]),.s 100006 7 16 52]
 (.q [.f 53 16 6,⟨none,none,100007,.store 1 (.t 53) .T⟩]
 (.seq (.q [.m 54 0]
 (.block 0 (.seq (.q [.B 56 .eql 54 0,.m 55 56]
 (.cond 55 .skip (.reg [.B 57 .eql 54 7,.m 55 57])))
 (.cond 55 (.seq (.q [.m 58 13,.N 59 58]
 (.c 59 (.q [.op 60 (.build [.e,.i 0,.nils 1,.i 0,.nils 1,.i 0,.F] []),.s 100008 7 8 60,.i 9 3]
 .ret)))
 (.q [.L 61 7 14,.s 100009 7 8 61,.i 9 0]
 .ret)) (.seq (.q [.B 63 .eql 54 4,.m 62 63]
 (.cond 62 .skip (.reg [.B 64 .eql 54 5,.m 62 64])))
 (.cond 62 (.q [.L 65 7 15,.s 100010 7 8 65,.i 9 0]
 .ret) (.q [.B 67 .eql 54 6,.m 66 67]
 (.c 66 (.seq (.q [.m 68 13,.N 69 68]
 (.c 69 (.q [.L 70 7 16,.s 100011 7 8 70,.i 9 0]
 .ret)))
 (.q [.L 71 7 14,.s 100012 7 8 71,.i 9 0]
 .ret))))))))))
 (.seq (.q [.m 72 13,.N 73 72]
 (.c 73 (.q [.L 74 7 16,.s 100013 7 8 74,.i 9 0]
 .ret)))
 (.q [.m 75 1,.L 76 2 12,.L 77 2 10,.op 78 (.build [.e,.i 0,.nils 1,.i 0,.nils 1,.i 0,.F] [(0,1,(.t 75)),(1,2,(.t 76)),(3,2,(.t 77)),(5,1,(.i 3))]),.s 100014 7 8 78,.i 9 0]
 .ret))))))))))⟩
theorem r_i_RowOf {Te:TE} (c_i_CellOf:C_i_CellOf Te) (c_i_within:C_i_within Te) (c_i_NameOk:C_i_NameOk Te):C_i_RowOf (RF Te x_i_RowOf):=by
 intro ph key cs s hk hs
 refine X0 x_i_RowOf.eq_1 ?_
 refine C0 (c_i_CellOf 0 s hs) ?_
 refine C0 (c_i_within _ _ _) ?_
 cases g1:win ph 0 7
 ·try simp -implicitDefEqProofs (maxSteps:=1000000) only [go_sem,rowOf,rowFine,g1,take_rows]
  repeat refine ⟨sc,?_⟩
  try exact sf
  try rfl
 refine G0 ?_
 refine C0 (c_i_NameOk key (by omega)) ?_
 cases g2:nameOk key
 ·try simp -implicitDefEqProofs (maxSteps:=1000000) only [go_sem,rowOf,rowFine,g1,g2,take_rows]
  repeat refine ⟨sc,?_⟩
  try exact sf
  try rfl
 refine G0 ?_
 refine C0 (c_i_within _ _ _) ?_
 cases g3:win cs 1 5
 ·try simp -implicitDefEqProofs (maxSteps:=1000000) only [go_sem,rowOf,rowFine,g1,g2,g3,take_rows]
  repeat refine ⟨sc,?_⟩
  try exact sf
  try rfl
 refine G0 ?_
 cases g4:(cellOf 0 s).2
 ·try simp -implicitDefEqProofs (maxSteps:=1000000) only [go_sem,rowOf,rowFine,g1,g2,g3,g4,take_rows]
  repeat refine ⟨sc,?_⟩
  try exact sf
  try rfl
 refine G1 g4 ?_
 refine C0 (c_i_CellOf cs s hs) ?_
 cases g5:(cellOf cs s).2 <;> cases p0:(ph==0) <;> cases p7:(ph==7) <;> cases p4:(ph==4) <;> cases p5:(ph==5) <;> cases p6:(ph==6)
 all_goals
  try simp -implicitDefEqProofs (maxSteps:=1000000) only [go_sem,rowOf,rowFine,g1,g2,g3,g4,g5,p0,p7,p4,p5,p6,take_rows]
  try rfl
def x_s_RowOf:FnX:=⟨77,[.cell 8 (some 7),.tmp 9],
  .q [.op 8 (.alloc [.e,.i 0,.nils 1,.i 0,.nils 1,.i 0,.F]),.i 9 0]
 (.q [.m 15 3,.op 16 (.call 179 [0,0] [(.i 0),(.t 15)]),.m 14 16,.e 17 14 0,.e 18 14 1,.op 10 (.alloc [.i 0,.nils 1]),.s 100001 2 10 17,.m 11 18]
 (.seq (.q [.m 19 0,.op 20 (.call 42 [0,0,0] [(.t 19),(.i 0),(.i 7)]),.N 21 20,.m 22 21,.z 22 (.m 23 1),.z 22 (.c 24 137 [23]),.z 22 (.N 25 24),.r 26 22 25,.m 27 26,.z 27 (.m 28 2),.z 27 (.op 29 (.call 42 [0,0,0] [(.t 28),(.i 1),(.i 5)])),.z 27 (.N 30 29),.r 31 27 30,.m 32 31,.z 32 (.m 33 11),.z 32 (.N 34 33),.r 35 32 34]
 (.c 35 (.q [.op 36 (.build [.e,.i 0,.nils 1,.i 0,.nils 1,.i 0,.F] []),.s 100002 7 8 36,.i 9 1]
 .ret)))
 (.q [.m 38 2,.m 39 3,.c 40 179 [38,39],.m 37 40,.e 41 37 0,.e 42 37 1,.op 12 (.alloc [.i 0,.nils 1]),.s 100003 2 12 41,.m 13 42]
 (.seq (.q [.m 43 0]
 (.block 0 (.seq (.q [.B 45 .eql 43 0,.m 44 45]
 (.cond 44 .skip (.reg [.B 46 .eql 43 7,.m 44 46])))
 (.cond 44 (.seq (.q [.m 47 13,.N 48 47]
 (.c 48 (.q [.op 49 (.build [.e,.i 0,.nils 1,.i 0,.nils 1,.i 0,.F] []),.s 100004 7 8 49,.i 9 3]
 .ret)))
 (.q [.m 50 1,.L 51 2 12,.op 52 (.build [.e,.i 0,.nils 1,.i 0,.nils 1,.i 0,.F] [(0,1,(.t 50)),(1,2,(.t 51)),(5,1,(.i 1))]),.s 100005 7 8 52,.i 9 0]
 .ret)) (.seq (.q [.B 54 .eql 43 4,.m 53 54]
 (.cond 53 .skip (.reg [.B 55 .eql 43 5,.m 53 55])))
 (.cond 53 (.q [.m 56 1,.L 57 2 10,.op 58 (.build [.e,.i 0,.nils 1,.i 0,.nils 1,.i 0,.F] [(0,1,(.t 56)),(3,2,(.t 57)),(5,1,(.i 2))]),.s 100006 7 8 58,.i 9 0]
 .ret) (.q [.B 60 .eql 43 6,.m 59 60]
 (.c 59 (.seq (.q [.m 61 13]
 (.c 61 (.q [.m 62 1,.L 63 2 12,.op 64 (.build [.e,.i 0,.nils 1,.i 0,.nils 1,.i 0,.F] [(0,1,(.t 62)),(1,2,(.t 63)),(5,1,(.i 1))]),.s 100007 7 8 64,.i 9 0]
 .ret)))
 (.q [.m 65 1,.L 66 2 10,.op 67 (.build [.e,.i 0,.nils 1,.i 0,.nils 1,.i 0,.F] [(0,1,(.t 65)),(3,2,(.t 66)),(5,1,(.i 2)),(6,1,.T)]),.s 100008 7 8 67,.i 9 0]
 .ret))))))))))
 (.seq (.q [.m 68 13,.N 69 68]
 (.c 69 (.q [.m 70 1,.L 71 2 10,.op 72 (.build [.e,.i 0,.nils 1,.i 0,.nils 1,.i 0,.F] [(0,1,(.t 70)),(3,2,(.t 71)),(5,1,(.i 2)),(6,1,.T)]),.s 100009 7 8 72,.i 9 0]
 .ret)))
 (.q [.m 73 1,.L 74 2 12,.L 75 2 10,.op 76 (.build [.e,.i 0,.nils 1,.i 0,.nils 1,.i 0,.F] [(0,1,(.t 73)),(1,2,(.t 74)),(3,2,(.t 75)),(5,1,(.i 3))]),.s 100010 7 8 76,.i 9 0]
 .ret))))))⟩
theorem r_s_RowOf {Te:TE} (c_s_CellOf:C_s_CellOf Te) (c_s_l1In:C_s_l1In Te) (c_s_NameOk:C_s_NameOk Te):C_s_RowOf (RF Te x_s_RowOf):=by
 intro ph key cs s hk hs
 refine X0 x_s_RowOf.eq_1 ?_
 refine C0 (c_s_CellOf 0 s hs) ?_
 refine C0 (c_s_l1In _ _ _) ?_
 cases g1:win ph 0 7
 ·try simp -implicitDefEqProofs (maxSteps:=1000000) only [go_sem,rowOf,rowFine,g1,take_rows]
  repeat refine ⟨sc,?_⟩
  try exact sf
  try rfl
 refine G0 ?_
 refine C0 (c_s_NameOk key (by omega)) ?_
 cases g2:nameOk key
 ·try simp -implicitDefEqProofs (maxSteps:=1000000) only [go_sem,rowOf,rowFine,g1,g2,take_rows]
  repeat refine ⟨sc,?_⟩
  try exact sf
  try rfl
 refine G0 ?_
 refine C0 (c_s_l1In _ _ _) ?_
 cases g3:win cs 1 5
 ·try simp -implicitDefEqProofs (maxSteps:=1000000) only [go_sem,rowOf,rowFine,g1,g2,g3,take_rows]
  repeat refine ⟨sc,?_⟩
  try exact sf
  try rfl
 refine G0 ?_
 cases g4:(cellOf 0 s).2
 ·try simp -implicitDefEqProofs (maxSteps:=1000000) only [go_sem,rowOf,rowFine,g1,g2,g3,g4,take_rows]
  repeat refine ⟨sc,?_⟩
  try exact sf
  try rfl
 refine G1 g4 ?_
 refine C0 (c_s_CellOf cs s hs) ?_
 cases g5:(cellOf cs s).2 <;> cases p0:(ph==0) <;> cases p7:(ph==7) <;> cases p4:(ph==4) <;> cases p5:(ph==5) <;> cases p6:(ph==6)
 all_goals
  try simp -implicitDefEqProofs (maxSteps:=1000000) only [go_sem,rowOf,rowFine,g1,g2,g3,g4,g5,p0,p7,p4,p5,p6,take_rows]
  try rfl
def x_s_l13Lay:FnX:=⟨64,[],
  .q [.m 6 0,.op 7 (.nilc (.t 6)),.f 8 7 4,.L 9 3 8,.c 10 183 [9],.m 4 10]
 (.seq (.q [.i 5 0]
 (.block 0 (.loop [0,1,4,5] (.seq (.q [.m 11 5,.m 12 4,.n 13 12,.b 14 .lss 11 13]
 (.cond 14 .skip (.exit 0)))
 (.seq (.block 1 (.draw [.m 17 0,.op 18 (.nilc (.t 17)),.f 19 18 0,.m 20 1,.m 21 5,.c 22 141 [20,21],.m 23 1,.m 24 5,.m 25 4,.m 26 5,.x 27 13 25 26,.L 28 13 27,.c 29 142 [23,24,28],.op 30 (.call 140 [6,0,0] [(.t 19),(.t 22),(.t 29)])] [[],[0],[1],[],[],[3,4],[],[],[],[],[8,9],[10],[6,7,11,5],[2,5,12,12]]))
 (.reg [.m 15 5,.B 16 .add 15 1,.m 5 16]))))))
 (.norm [0,1,4] (.q [.m 31 0,.op 32 (.nilc (.t 31)),.f 33 32 0,.op 34 (.call 143 [6] [(.t 33)])]
 (.seq (.draw [.m 35 0,.op 36 (.nilc (.t 35)),.f 37 36 0,.m 38 1,.B 39 .rem 38 2,.m 40 1,.m 41 4,.n 42 41,.c 43 184 [40,42],.op 44 (.call 140 [6,0,0] [(.t 37),(.t 39),(.t 43)])] [[],[0],[1],[],[3],[],[],[6],[5,7],[2,4,8,8]])
 (.q [.m 45 0,.op 46 (.nilc (.t 45)),.f 47 46 0,.op 48 (.call 143 [6] [(.t 47)])]
 (.q [.m 49 0,.op 50 (.nilc (.t 49)),.f 51 50 0,.f 52 51 3,.l 53 52,.N 54 53]
 (.c 54 (.q [.m 55 0,.m 56 1,.op 57 (.nilc (.t 55)),.f 58 57 7,.s 100001 1 58 56]
 (.reg [.m 59 0,.m 60 4,.n 61 60,.op 62 (.nilc (.t 59)),.f 63 62 8,.s 100002 1 63 61])))))))))⟩
theorem r_s_l13Lay {Te:TE} (c_s_RecsOf:C_s_RecsOf Te) (c_s_l13At:C_s_l13At Te) (c_s_PutRec:C_s_PutRec Te) (c_s_l10Write:C_s_l10Write Te) (c_s_l10Flush:C_s_l10Flush Te) (c_s_HeadOf:C_s_HeadOf Te):C_s_l13Lay (RF Te x_s_l13Lay):=by
 intro s gen hd ht
 have hL:=ht.len (by decide)
 obtain ⟨hr1,hr2⟩:=recsOf_le ht
 obtain ⟨D0,T0,G0,P0⟩:=s
 simp only at hd ht hL hr1 hr2
 obtain ⟨E0,hE⟩:∃ E0,E0=D0:=⟨_,rfl⟩
 generalize hL0:(StoreV.mk D0 T0 G0 P0).lay gen=L0
 rw [← hE] at hL0
 refine X0 x_s_l13Lay.eq_1 ?_
 refine C0 (c_s_RecsOf T0 hL) ?_
 generalize eR:recsOf T0=R at hr1 hr2
 refine loop_of (σ:=Bool×Nat×DevV) (fun x=>cond x.1 (⟨[(0,.bp 0 0),(1,.one (.pv (.int .i64 gen))),(4,.one (.rf 66 0 [] 13 0 R.length)),(5,.one (.pv (.int .i64 x.2.1)))],[(0,[.rf 67 0 [] 1 0 x.2.2.Secs.length,.rf 67 1 [] 2 0 x.2.2.Cache.length,.pv (.int .i64 x.2.2.Fuse),.pv (.bool x.2.2.Down),.rf 0 4 [] 7 0 T0.Rows.length,.pv (.int .i64 T0.Phase),.rf 0 6 [] 3 0 T0.Marks.length,.pv (.int .i64 G0),.pv (.int .i64 P0)])],[(0,[.no (),.no (),iT D0.Fuse,bT D0.Down,slT true 7 (RowV.enc true) T0.Rows,iT T0.Phase,slT true 3 MarkV.row T0.Marks,iT G0,iT P0]),(1,[iT gen]),(66,[slT true 13 (RecV.enc true) R]),(67,x.2.2.enc true)]⟩) (⟨[(0,.bp 0 0),(1,.one (.pv (.int .i64 gen))),(4,.one (.rf 66 0 [] 13 0 R.length)),(5,.one (.pv (.int .i64 x.2.1)))],[(0,[.rf 0 0 [] 1 0 x.2.2.Secs.length,.rf 0 1 [] 2 0 x.2.2.Cache.length,.pv (.int .i64 x.2.2.Fuse),.pv (.bool x.2.2.Down),.rf 0 4 [] 7 0 T0.Rows.length,.pv (.int .i64 T0.Phase),.rf 0 6 [] 3 0 T0.Marks.length,.pv (.int .i64 G0),.pv (.int .i64 P0)])],[(0,(StoreV.mk D0 T0 G0 P0).enc true),(1,[iT gen]),(66,[slT true 13 (RecV.enc true) R])]⟩)) (fun x=>x.2.1≤R.length∧x.2.2=layN gen R E0 x.2.1∧x.2.2.ok=true∧(x.1=false→x.2.2=D0)) (fun x=>R.length - x.2.1) (false,0,D0) ?_ ⟨Nat.zero_le _,hE.symm,hd,fun _=>rfl⟩ ?_
 ·simp -implicitDefEqProofs (maxSteps:=1000000) only [go_sem]
  try rfl
 ·rintro ⟨b,i,D⟩ ⟨hi,hD,hk,hb⟩
  simp only at hi hD hk hb
  cases b
  all_goals try (have hb:=hb rfl; subst hb)
  all_goals
   have hcl:=(DevV.ok_iff D).1 hk
   cases q:decide ((i:Int) < (R.length:Int))
   ·have k0:i=R.length:=by simp only [decide_eq_false_iff_not] at q; omega
    have e:((D.flush).write (gen.tmod 2) (headOf gen R.length)).flush=layDev gen R E0:=by rw [hD,k0]; rfl
    have hh:=headOf_len gen R.length
    have f1:=flush_ok hk
    have f2:=write_ok f1 (gen.tmod 2) (headOf gen R.length)
    have hcl1:=(DevV.ok_iff _).1 f1
    have hcl2:=(DevV.ok_iff _).1 f2
    refine G1 q ?_
    refine C0 (c_s_l10Flush D (by omega) (DevV.ok_idx hk)) ?_
    refine C0 (c_s_HeadOf _ _) ?_
    refine .of (c_s_l10Write D.flush _ _ (by omega) (by omega)) ?_
    try simp -implicitDefEqProofs (maxSteps:=1000000) only [go_sem,take_all]
    repeat refine ⟨sc,?_⟩
    try exact sf
    refine .of (c_s_l10Flush _ (by omega) (DevV.ok_idx f2)) ?_
    try simp -implicitDefEqProofs (maxSteps:=1000000) only [go_sem,take_all]
    repeat refine ⟨sc,?_⟩
    try exact sf
    rw [e]
    cases g:(layDev gen R E0).Down
    ·have e2:L0=⟨layDev gen R E0,T0,gen,R.length⟩:=by rw [← hL0,← eR]; exact lay_up (by rw [eR]; exact g)
     try simp -implicitDefEqProofs (maxSteps:=1000000) only [go_sem,g,e2,take_all,StoreV.enc]
     repeat refine ⟨sc,?_⟩
     try exact sf
     try rfl
    ·have e2:L0=⟨layDev gen R E0,T0,G0,P0⟩:=by rw [← hL0,← eR]; exact lay_down (by rw [eR]; exact g)
     try simp -implicitDefEqProofs (maxSteps:=1000000) only [go_sem,g,e2,take_all,StoreV.enc]
     repeat refine ⟨sc,?_⟩
     try exact sf
     try rfl
   ·have k1:i < R.length:=by simp only [decide_eq_true_eq] at q; omega
    have hp:=putRec_len gen i R[i]
    have hin:=hr2 _ (List.getElem_mem k1)
    have es:=layN_step gen E0 k1
    rw [← hD] at es
    have eg:(R.map (RecV.enc true)).getD i []=R[i].enc true:=by rw [List.getD_eq_getElem?_getD,List.getElem?_map,List.getElem?_eq_getElem k1]; rfl
    refine G2 q (List.getElem?_eq_getElem k1) ?_
    refine C2 (c_s_l13At _ _) eg (List.getElem?_eq_getElem k1) ?_
    refine C0 (c_s_PutRec _ _ R[i] hin) ?_
    refine .of (c_s_l10Write D _ _ (by omega) (by omega)) ?_
    try simp -implicitDefEqProofs (maxSteps:=1000000) only [go_sem,take_all]
    repeat refine ⟨sc,?_⟩
    try exact sf
    refine ⟨(true,i + 1,D.write (secOf gen i) (putRec gen i R[i])),?_,⟨k1,es,write_ok hk _ _,fun h=>by cases h⟩,by simp only; omega⟩
    rw [IntWalk.i64_in _ (by omega)]
    rfl
def x_i_copyDev:FnX:=⟨50,[.cell 2 (some 4)],
  .q [.v 1 0,.op 2 (.alloc [.nils 1,.nils 2,.i 0,.F])]
 (.q [.f 8 1 2,.l 9 8,.f 10 1 3,.l 11 10,.op 12 (.build [.nils 1,.nils 2,.i 0,.F] [(2,1,(.t 9)),(3,1,(.t 11))]),.op 3 (.alloc [.nils 1,.nils 2,.i 0,.F]),.s 100001 4 3 12]
 (.seq (.q [.f 13 1 0,.l 14 13,.n 15 14,.i 16 0]
 (.up 3 1 300001 (.up 3 0 300000 (.block 0 (.loop [1,2,3,14,15,16] (.q [.b 17 .lss 16 15]
 (.seq (.cond 17 .skip (.exit 0))
 (.seq (.block 1 (.q [.x 18 1 14 16,.l 19 18,.m 5 19]
 (.draw [.f 20 3 0,.l 21 20,.m 22 5,.op 23 (.bslice 1 [(.t 22)]),.c 24 152 [23],.op 25 (.bslice 1 [(.t 24)]),.op 26 (.app 1 24 (.t 21) (.t 25)),.f 27 3 0,.s 100002 1 27 26] [[],[0],[],[2],[3],[4],[1,5,4],[0,1,2,3,4,5,6],[7,6,6,0,1,2,3,4,5,6]])))
 (.reg [.B 28 .add 16 1,.m 16 28])))))))))
 (.norm [1,2,3] (.seq (.q [.f 29 1 1,.l 30 29,.n 31 30,.i 32 0]
 (.block 2 (.loop [2,3,30,31,32] (.q [.b 33 .lss 32 31]
 (.seq (.cond 33 .skip (.exit 2))
 (.seq (.block 3 (.q [.x 34 2 30 32,.L 35 2 34,.op 7 (.alloc [.i 0,.nils 1]),.s 100003 2 7 35]
 (.draw [.f 36 3 1,.l 37 36,.f 38 7 0,.l 39 38,.f 40 7 1,.l 41 40,.op 42 (.bslice 1 [(.t 41)]),.c 43 152 [42],.op 44 (.build [.i 0,.nils 1] [(0,1,(.t 39)),(1,1,(.t 43))]),.op 45 (.bslice 2 [(.t 44)]),.op 46 (.app 2 32 (.t 37) (.t 45)),.f 47 3 1,.s 100004 1 47 46] [[],[0],[],[2],[],[4],[5],[6],[3,7],[8],[1,9,7],[0,1,2,3,4,5,6,7,8,9,10],[11,10,10,0,1,2,3,4,5,6,7,8,9,10]])))
 (.reg [.B 48 .add 32 1,.m 32 48])))))))
 (.norm [2,3] (.q [.L 49 4 3,.s 100005 4 2 49]
 .ret))))))⟩
theorem r_i_copyDev {Te:TE} (c_i_joined:C_i_joined Te):C_i_copyDev (RF Te x_i_copyDev):=by
 intro d h
 obtain ⟨⟨hS,hSl⟩,hC,hCl⟩:=h
 refine X0 x_i_copyDev.eq_1 ?_
 refine loop_of (σ:=Nat×List (List UInt8)) (fun x=>⟨[(1,.bp 1 0),(2,.bp 2 0),(3,.bp 3 0),(14,.one (.ro 1 (d.Secs.map (secR false)))),(15,.one (.pv (.int .i64 d.Secs.length))),(16,.one (.pv (.int .i64 x.1)))],[(1,[.ro 1 (d.Secs.map (secR false)),.ro 2 (d.Cache.map (WrV.enc false)),.pv (.int .i64 d.Fuse),.pv (.bool d.Down)]),(2,[.nils 1,.nils 2,.pv (.int .i64 0),.pv (.bool false)]),(3,[.rf 51 0 [] 1 0 x.2.length,.rf 52 0 [] 2 0 0,.pv (.int .i64 d.Fuse),.pv (.bool d.Down)])],[(0,d.enc false),(51,[slT true 1 (secR true) x.2]),(52,[slT true 2 (WrV.enc true) []])]⟩) (fun x=>x.1≤d.Secs.length∧x.2=d.Secs.take x.1) (fun x=>d.Secs.length - x.1) (0,[]) ?_ ⟨Nat.zero_le _,rfl⟩ ?_
 ·simp -implicitDefEqProofs (maxSteps:=1000000) only [go_sem]
  try rfl
 ·rintro ⟨i,l⟩ ⟨hi,he⟩
  simp only at hi he
  have hl:l.length=i:=by rw [he,List.length_take]; omega
  cases q:decide ((i:Int) < (d.Secs.length:Int))
  ·have k0:i=d.Secs.length:=by simp only [decide_eq_false_iff_not] at q; omega
   rw [k0,List.take_length] at he
   subst he
   refine G1 q ?_
   refine loop_of (σ:=Nat×List WrV) (fun x=>⟨[(2,.bp 2 0),(3,.bp 3 0),(30,.one (.ro 2 (d.Cache.map (WrV.enc false)))),(31,.one (.pv (.int .i64 d.Cache.length))),(32,.one (.pv (.int .i64 x.1)))],[(2,[.nils 1,.nils 2,.pv (.int .i64 0),.pv (.bool false)]),(3,[.rf 51 0 [] 1 0 d.Secs.length,.rf 52 0 [] 2 0 x.2.length,.pv (.int .i64 d.Fuse),.pv (.bool d.Down)])],[(0,d.enc false),(51,[slT true 1 (secR true) d.Secs]),(52,[slT true 2 (WrV.enc true) x.2])]⟩) (fun x=>x.1≤d.Cache.length∧x.2=d.Cache.take x.1) (fun x=>d.Cache.length - x.1) (0,[]) ?_ ⟨Nat.zero_le _,rfl⟩ ?_
   ·simp -implicitDefEqProofs (maxSteps:=1000000) only [go_sem]
    try rfl
   ·rintro ⟨j,m⟩ ⟨hj,hm⟩
    simp only at hj hm
    have hml:m.length=j:=by rw [hm,List.length_take]; omega
    cases q2:decide ((j:Int) < (d.Cache.length:Int))
    ·have k2:j=d.Cache.length:=by simp only [decide_eq_false_iff_not] at q2; omega
     rw [k2,List.take_length] at hm
     subst hm
     exact F1 q2
    ·have k2:j < d.Cache.length:=by simp only [decide_eq_true_eq] at q2; omega
     have hb:d.Cache[j].B.length≤2 ^ 21:=hCl _ (List.getElem_mem k2)
     have ea:=app1W m d.Cache[j]
     refine G2 q2 (List.getElem?_eq_getElem k2) ?_
     refine .of (c_i_joined [d.Cache[j].B] (by rw [flat1]; omega) (by show 1≤2 ^ 31; decide)) ?_
     try simp -implicitDefEqProofs (maxSteps:=1000000) only [go_sem,flat1,take_all,ea]
     repeat refine ⟨sc,?_⟩
     try exact sf
     refine ⟨(j + 1,m++[d.Cache[j]]),?_,⟨k2,by rw [hm,List.take_succ_eq_append_getElem k2]⟩,by simp only; omega⟩
     rw [IntWalk.i64_in _ (by omega)]
     simp only [List.length_append]
     rfl
  ·have k1:i < d.Secs.length:=by simp only [decide_eq_true_eq] at q; omega
   have hb:d.Secs[i].length≤2 ^ 21:=hSl _ (List.getElem_mem k1)
   have ea:=app1S l d.Secs[i]
   refine G2 q (List.getElem?_eq_getElem k1) ?_
   refine .of (c_i_joined [d.Secs[i]] (by rw [flat1]; omega) (by show 1≤2 ^ 31; decide)) ?_
   try simp -implicitDefEqProofs (maxSteps:=1000000) only [go_sem,flat1,take_all,ea]
   repeat refine ⟨sc,?_⟩
   try exact sf
   refine ⟨(i + 1,l++[d.Secs[i]]),?_,⟨k1,by rw [he,List.take_succ_eq_append_getElem k1]⟩,by simp only; omega⟩
   rw [IntWalk.i64_in _ (by omega)]
   simp only [List.length_append]
   rfl
def x_i_burn:FnX:=⟨18,[.cell 2 (some 4),.tmp 3],
  .q [.v 1 0,.op 2 (.alloc [.nils 1,.nils 2,.i 0,.F]),.F 3]
 (.seq (.q [.f 4 1 2,.l 5 4,.B 6 .eql 5 0]
 (.c 6 (.q [.f 7 1 3,⟨none,none,100001,.store 1 (.t 7) .T⟩,.f 8 1 2,⟨none,none,100002,.store 1 (.t 8) (.i (-1))⟩]
 (.q [.L 9 4 1,.s 100003 4 2 9,.F 3]
 .ret))))
 (.seq (.q [.f 10 1 2,.l 11 10,.B 12 .gtr 11 0]
 (.c 12 (.reg [.f 13 1 2,.l 14 13,.B 15 .sub 14 1,.f 16 1 2,.s 100004 1 16 15])))
 (.q [.L 17 4 1,.s 100005 4 2 17,.T 3]
 .ret)))⟩
theorem r_i_burn {Te:TE}:C_i_burn (RF Te x_i_burn):=by
 intro d
 refine run0 ?_
 cases g:(d.Fuse==0)
 ·have g1:¬ d.Fuse=0:=by simpa using g
  cases g2:decide (d.Fuse > 0)
  ·have e:d.burn=d:=by rw [DevV.burn,if_neg g1,if_neg (by simpa using g2)]
   simp -implicitDefEqProofs (maxSteps:=1000000) only [x_i_burn,go_sem,g,g2,e,take_all]
   repeat refine ⟨sc,?_⟩
   try exact sf
   try rfl
  ·have e:d.burn=⟨d.Secs,d.Cache,IntKind.i64.wrap (d.Fuse - 1),d.Down⟩:=by rw [DevV.burn,if_neg g1,if_pos (by simpa using g2)]
   simp -implicitDefEqProofs (maxSteps:=1000000) only [x_i_burn,go_sem,g,g2,e,take_all]
   repeat refine ⟨sc,?_⟩
   try exact sf
   try rfl
 ·have g1:d.Fuse=0:=by simpa using g
  have e:d.burn=⟨d.Secs,d.Cache,-1,true⟩:=by rw [DevV.burn,if_pos g1]
  simp -implicitDefEqProofs (maxSteps:=1000000) only [x_i_burn,go_sem,g,e,take_all]
  repeat refine ⟨sc,?_⟩
  try exact sf
  try rfl
def x_s_l10Op:FnX:=⟨27,[.tmp 2],
  .q [.F 2]
 (.seq (.q [.m 3 0,.op 4 (.nilc (.t 3)),.f 5 4 2,.l 6 5,.B 7 .eql 6 0]
 (.c 7 (.q [.m 8 0,.op 9 (.nilc (.t 8)),.f 10 9 3,⟨none,none,100001,.store 1 (.t 10) .T⟩]
 (.q [.m 11 0,.op 12 (.nilc (.t 11)),.f 13 12 2,⟨none,none,100002,.store 1 (.t 13) (.i (-1))⟩]
 (.q [.F 2]
 .ret)))))
 (.seq (.q [.m 14 0,.op 15 (.nilc (.t 14)),.f 16 15 2,.l 17 16,.B 18 .gtr 17 0]
 (.c 18 (.reg [.m 19 0,.m 20 0,.op 21 (.nilc (.t 20)),.f 22 21 2,.l 23 22,.B 24 .sub 23 1,.op 25 (.nilc (.t 19)),.f 26 25 2,.s 100003 1 26 24])))
 (.q [.T 2]
 .ret)))⟩
theorem r_s_l10Op {Te:TE}:C_s_l10Op (RF Te x_s_l10Op):=by
 intro d
 refine run0 ?_
 cases g:(d.Fuse==0)
 ·have g1:¬ d.Fuse=0:=by simpa using g
  cases g2:decide (d.Fuse > 0)
  ·have e:d.burn=d:=by rw [DevV.burn,if_neg g1,if_neg (by simpa using g2)]
   simp -implicitDefEqProofs (maxSteps:=1000000) only [x_s_l10Op,go_sem,g,g2,e,take_all]
   repeat refine ⟨sc,?_⟩
   try exact sf
   try rfl
  ·have e:d.burn=⟨d.Secs,d.Cache,IntKind.i64.wrap (d.Fuse - 1),d.Down⟩:=by rw [DevV.burn,if_neg g1,if_pos (by simpa using g2)]
   simp -implicitDefEqProofs (maxSteps:=1000000) only [x_s_l10Op,go_sem,g,g2,e,take_all]
   repeat refine ⟨sc,?_⟩
   try exact sf
   try rfl
 ·have g1:d.Fuse=0:=by simpa using g
  have e:d.burn=⟨d.Secs,d.Cache,-1,true⟩:=by rw [DevV.burn,if_pos g1]
  simp -implicitDefEqProofs (maxSteps:=1000000) only [x_s_l10Op,go_sem,g,e,take_all]
  repeat refine ⟨sc,?_⟩
  try exact sf
  try rfl
def x_s_l11Cell:FnX:=⟨15,[.tmp 4],
  .q [.v 3 1,.op 4 (.mv (.k (.one (.nils 1))))]
 (.seq (.draw [.m 5 0,.f 6 3 0,.l 7 6,.op 8 (.conv (.int .u8) (.t 7)),.op 9 (.bslice 1 [(.t 8)]),.op 10 (.app 1 1 (.t 5) (.t 9)),.f 11 3 1,.l 12 11,.op 13 (.conv .b2s (.t 12)),.c 14 188 [10,13],.m 4 14] [[],[],[1],[2],[3],[0,4],[],[6],[7],[5,8,5],[9,9,0,1,2,3,4,5,6,7,8,9]])
 .ret)⟩
theorem r_s_l11Cell {Te:TE} (c_s_PutText:C_s_PutText Te):C_s_l11Cell (RF Te x_s_l11Cell):=by
 intro b c hb hc
 refine run0 ?_
 have ea:=areBytes_uR c.B
 have fa:=bytesOf_uR c.B
 simp -implicitDefEqProofs (maxSteps:=1000000) only [x_s_l11Cell,go_sem,mkU_wrap,ea,fa,app1B,take1B]
 repeat refine ⟨sc,?_⟩
 try exact sf
 have tt:=c_s_PutText (b++[mkU c.Tag]) (strOf c.B) (by rw [List.length_append]; simp only [List.length_cons,List.length_nil]; omega) (by rw [strOf_size]; exact hc)
 rw [← putCell] at tt
 exact D0 (tt)
def x_i_PutRow:FnX:=⟨56,[.tmp 4],
  .q [.v 3 1,.op 4 (.mv (.k (.one (.nils 1))))]
 (.q [.m 6 0,.op 7 (.bslice 1 [(.t 6)]),.c 8 152 [7],.m 5 8]
 (.seq (.q [.L 9 7 3,.c 10 165 [9],.N 11 10]
 (.c 11 (.q [.m 12 5,.m 4 12]
 .ret)))
 (.seq (.draw [.m 13 5,.f 14 3 0,.l 15 14,.c 16 210 [13,15],.f 17 3 5,.l 18 17,.op 19 (.conv (.int .u8) (.t 18)),.f 20 3 6,.l 21 20,.c 22 230 [21],.op 23 (.bslice 1 [(.t 19),(.t 22)]),.op 24 (.app 1 1 (.t 16) (.t 23)),.m 5 24] [[],[],[1],[0,2],[],[4],[5],[],[7],[8,3],[6,9],[3,10,9],[11,11,0,1,2,3,4,5,6,7,8,9,10,11]])
 (.seq (.q [.f 25 3 5,.l 26 25,.B 27 .neq 26 2]
 (.c 27 (.draw [.m 28 5,.f 29 3 1,.f 30 29 0,.l 31 30,.op 32 (.conv (.int .u8) (.t 31)),.op 33 (.bslice 1 [(.t 32)]),.op 34 (.app 1 1 (.t 28) (.t 33)),.f 35 3 1,.f 36 35 1,.l 37 36,.op 38 (.conv .b2s (.t 37)),.c 39 210 [34,38],.m 5 39] [[],[],[1],[2],[3],[4],[0,5],[],[7],[8],[9],[6,10,6],[11,11,0,1,2,3,4,5,6,7,8,9,10,11]])))
 (.seq (.q [.f 40 3 5,.l 41 40,.B 42 .neq 41 1]
 (.c 42 (.draw [.m 43 5,.f 44 3 3,.f 45 44 0,.l 46 45,.op 47 (.conv (.int .u8) (.t 46)),.op 48 (.bslice 1 [(.t 47)]),.op 49 (.app 1 1 (.t 43) (.t 48)),.f 50 3 3,.f 51 50 1,.l 52 51,.op 53 (.conv .b2s (.t 52)),.c 54 210 [49,53],.m 5 54] [[],[],[1],[2],[3],[4],[0,5],[],[7],[8],[9],[6,10,6],[11,11,0,1,2,3,4,5,6,7,8,9,10,11]])))
 (.q [.m 55 5,.m 4 55]
 .ret))))))⟩
theorem r_i_PutRow {Te:TE} (c_i_joined:C_i_joined Te) (c_i_RowOk:C_i_RowOk Te) (c_i_PutText:C_i_PutText Te) (c_i_flag:C_i_flag Te):C_i_PutRow (RF Te x_i_PutRow):=by
 intro b r hb h
 obtain ⟨h1,h2,h3⟩:=h
 have ea:=areBytes_uR r.Old.B
 have fa:=bytesOf_uR r.Old.B
 have eb:=areBytes_uR r.New.B
 have fb:=bytesOf_uR r.New.B
 have l0:=putText_len b r.Key
 have l1:=putRow1_len b r
 have l2:=putRow2_len b r
 refine X0 x_i_PutRow.eq_1 ?_
 refine .of (c_i_joined [b] (by rw [flat1]; omega) (by show 1≤2 ^ 31; decide)) ?_
 try simp -implicitDefEqProofs (maxSteps:=1000000) only [go_sem,flat1]
 repeat refine ⟨sc,?_⟩
 try exact sf
 refine C0 (c_i_RowOk r ⟨h1,h2,h3⟩) ?_
 cases g:r.ok
 ·try simp -implicitDefEqProofs (maxSteps:=1000000) only [go_sem,putRow,g,if_false,reduceCtorEq]
  repeat refine ⟨sc,?_⟩
  try exact sf
 have ep:putRow b r=putRow3 b r:=if_pos g
 refine G0 ?_
 refine C0 (c_i_PutText b r.Key (by omega) h1) ?_
 refine .of (c_i_flag r.Aside) ?_
 try simp -implicitDefEqProofs (maxSteps:=1000000) only [go_sem,mkU_wrap,app2B,take2B]
 repeat refine ⟨sc,?_⟩
 try exact sf
 have e1:putText b r.Key++[mkU r.Has,bif r.Aside then 1 else 0]=putRow1 b r:=rfl
 have e2:(putText b r.Key).length + 2=(putRow1 b r).length:=by rw [putRow1,List.length_append]; rfl
 simp only [e1,e2]
 have gw:=win13 (rowOk_win g)
 by_cases q2:r.Has=2
 ·have k2:(r.Has != 2)=false:=by simp only [bne_eq_false_iff_eq]; exact q2
  have k1:(r.Has != 1)=true:=by simp only [bne_iff_ne,ne_eq]; omega
  have e3:putRow2 b r=putRow1 b r:=if_pos q2
  have e4:putRow3 b r=putCell (putRow1 b r) r.New:=by rw [putRow3,if_neg (by omega),e3]
  try simp -implicitDefEqProofs (maxSteps:=1000000) only [go_sem,k2,k1,eb,fb,mkU_wrap,app1B,take1B]
  repeat refine ⟨sc,?_⟩
  try exact sf
  have tt:=c_i_PutText (putRow1 b r++[mkU r.New.Tag]) (strOf r.New.B) (by rw [List.length_append]; simp only [List.length_cons,List.length_nil]; omega) (by rw [strOf_size]; exact h3)
  rw [← putCell] at tt
  exact D2 (tt) ep e4
 ·have k2:(r.Has != 2)=true:=by simp only [bne_iff_ne,ne_eq]; exact q2
  have e3:putRow2 b r=putCell (putRow1 b r) r.Old:=if_neg q2
  try simp -implicitDefEqProofs (maxSteps:=1000000) only [go_sem,k2,ea,fa,mkU_wrap,app1B,take1B]
  repeat refine ⟨sc,?_⟩
  try exact sf
  have tt:=c_i_PutText (putRow1 b r++[mkU r.Old.Tag]) (strOf r.Old.B) (by rw [List.length_append]; simp only [List.length_cons,List.length_nil]; omega) (by rw [strOf_size]; exact h2)
  rw [← putCell,← e3] at tt
  refine C0 (tt) ?_
  by_cases q1:r.Has=1
  ·have k1:(r.Has != 1)=false:=by simp only [bne_eq_false_iff_eq]; exact q1
   have e4:putRow3 b r=putRow2 b r:=if_pos q1
   exact F3 k1 ep e4
  ·have k1:(r.Has != 1)=true:=by simp only [bne_iff_ne,ne_eq]; exact q1
   have e4:putRow3 b r=putCell (putRow2 b r) r.New:=if_neg q1
   try simp -implicitDefEqProofs (maxSteps:=1000000) only [go_sem,k1,eb,fb,mkU_wrap,app1B,take1B]
   repeat refine ⟨sc,?_⟩
   try exact sf
   have tt:=c_i_PutText (putRow2 b r++[mkU r.New.Tag]) (strOf r.New.B) (by rw [List.length_append]; simp only [List.length_cons,List.length_nil]; omega) (by rw [strOf_size]; exact h3)
   rw [← putCell] at tt
   exact D2 (tt) ep e4
def x_i_isSet:FnX:=⟨5,[.tmp 2],
  .q [.F 2]
 (.q [.m 3 0,.op 4 (.call 57 [0,0,0] [(.t 3),(.i 0),(.i 5)]),.m 2 4]
 .ret)⟩
theorem r_i_isSet {Te:TE} (c_i_within:C_i_within Te):C_i_isSet (RF Te x_i_isSet):=by
 intro cs
 refine X0 x_i_isSet.eq_1 ?_
 exact D0 (c_i_within _ _ _)
def x_s_l5Cs:FnX:=⟨5,[.tmp 2],
  .q [.F 2]
 (.q [.m 3 0,.op 4 (.call 42 [0,0,0] [(.t 3),(.i 0),(.i 5)]),.m 2 4]
 .ret)⟩
theorem r_s_l5Cs {Te:TE} (c_s_l1In:C_s_l1In Te):C_s_l5Cs (RF Te x_s_l5Cs):=by
 intro cs
 refine X0 x_s_l5Cs.eq_1 ?_
 exact D0 (c_s_l1In _ _ _)
def x_i_signIn:FnX:=⟨42,[.tmp 6,.tmp 7,.tmp 8],
  .q [.i 6 0,.i 7 0,.F 8]
 (.seq (.q [.m 11 0]
 (.block 0 (.q [.B 13 .eql 11 0,.m 12 13]
 (.cond 12 (.q [.m 14 1,.m 15 2,.c 16 223 [14,15],.e 17 16 0,.e 18 16 1,.e 19 16 2,.m 6 17,.m 7 18,.m 8 19]
 .ret) (.q [.B 21 .eql 11 5,.m 20 21]
 (.c 20 (.q [.m 22 1,.m 23 2,.c 24 224 [22,23],.e 25 24 0,.e 26 24 1,.e 27 24 2,.m 6 25,.m 7 26,.m 8 27]
 .ret)))))))
 (.q [.m 29 0,.m 30 1,.m 31 2,.x 32 1 30 31,.l 33 32,.op 34 (.conv (.int .i64) (.t 33)),.c 35 225 [29,34],.m 28 35,.e 36 28 0,.e 37 28 1,.m 9 36,.m 10 37]
 (.q [.m 38 9,.m 39 2,.B 40 .add 39 1,.m 41 10,.m 6 38,.m 7 40,.m 8 41]
 .ret)))⟩
theorem r_i_signIn {Te:TE} (c_i_GetSign:C_i_GetSign Te) (c_i_EucSign:C_i_EucSign Te) (c_i_ByteSign:C_i_ByteSign Te):C_i_signIn (RF Te x_i_signIn):=by
 intro cs b i hb hi
 refine run0 ?_
 cases g0:(cs==0)
 ·have n0:¬ cs=0:=by simpa using g0
  cases g5:(cs==5)
  ·have n5:¬ cs=5:=by simpa using g5
   have e:signIn cs b i=((byteSign cs (byteN b i.toNat:Nat)).1,i + 1,(byteSign cs (byteN b i.toNat:Nat)).2):=by rw [signIn,if_neg n0,if_neg n5]
   have hk:i.toNat < b.length:=by omega
   have eb:b[i.toNat].toNat=byteN b i.toNat:=by
    simp only [byteN,List.getD_eq_getElem?_getD]
    rw [List.getElem?_eq_getElem hk]
    rfl
   have hlt:=byteN_lt b i.toNat
   have w1:IntKind.i64.wrap ((byteN b i.toNat:Nat):Int)=(byteN b i.toNat:Nat):=IntWalk.i64_in _ (by omega)
   have w2:IntKind.i64.wrap (i + 1)=i + 1:=IntWalk.i64_in _ (by omega)
   simp -implicitDefEqProofs (maxSteps:=1000000) only [x_i_signIn,go_sem,g0,g5,List.getElem?_eq_getElem hk,eb,w1]
   repeat refine ⟨sc,?_⟩
   try exact sf
   exact D2 (c_i_ByteSign _ _) w2 e
  ·have n5:cs=5:=eq_of_beq g5
   subst n5
   have e:signIn 5 b i=eucSign b i:=rfl
   simp -implicitDefEqProofs (maxSteps:=1000000) only [x_i_signIn,go_sem]
   repeat refine ⟨sc,?_⟩
   try exact sf
   exact D1 (c_i_EucSign b i hb) e
 ·have n0:cs=0:=eq_of_beq g0
  subst n0
  have e:signIn 0 b i=getSign b i:=rfl
  simp -implicitDefEqProofs (maxSteps:=1000000) only [x_i_signIn,go_sem]
  repeat refine ⟨sc,?_⟩
  try exact sf
  exact D1 (c_i_GetSign b i (by omega)) e
def x_s_l5Get:FnX:=⟨42,[.tmp 6,.tmp 7,.tmp 8],
  .q [.i 6 0,.i 7 0,.F 8]
 (.seq (.q [.m 11 0]
 (.block 0 (.q [.B 13 .eql 11 0,.m 12 13]
 (.cond 12 (.q [.m 14 1,.m 15 2,.c 16 244 [14,15],.e 17 16 0,.e 18 16 1,.e 19 16 2,.m 6 17,.m 7 18,.m 8 19]
 .ret) (.q [.B 21 .eql 11 5,.m 20 21]
 (.c 20 (.q [.m 22 1,.m 23 2,.c 24 245 [22,23],.e 25 24 0,.e 26 24 1,.e 27 24 2,.m 6 25,.m 7 26,.m 8 27]
 .ret)))))))
 (.q [.m 29 0,.m 30 1,.m 31 2,.x 32 1 30 31,.l 33 32,.op 34 (.conv (.int .i64) (.t 33)),.c 35 246 [29,34],.m 28 35,.e 36 28 0,.e 37 28 1,.m 9 36,.m 10 37]
 (.q [.m 38 9,.m 39 2,.B 40 .add 39 1,.m 41 10,.m 6 38,.m 7 40,.m 8 41]
 .ret)))⟩
theorem r_s_l5Get {Te:TE} (c_s_GetSign:C_s_GetSign Te) (c_s_EucSign:C_s_EucSign Te) (c_s_ByteSign:C_s_ByteSign Te):C_s_l5Get (RF Te x_s_l5Get):=by
 intro cs b i hb hi
 refine run0 ?_
 cases g0:(cs==0)
 ·have n0:¬ cs=0:=by simpa using g0
  cases g5:(cs==5)
  ·have n5:¬ cs=5:=by simpa using g5
   have e:signIn cs b i=((byteSign cs (byteN b i.toNat:Nat)).1,i + 1,(byteSign cs (byteN b i.toNat:Nat)).2):=by rw [signIn,if_neg n0,if_neg n5]
   have hk:i.toNat < b.length:=by omega
   have eb:b[i.toNat].toNat=byteN b i.toNat:=by
    simp only [byteN,List.getD_eq_getElem?_getD]
    rw [List.getElem?_eq_getElem hk]
    rfl
   have hlt:=byteN_lt b i.toNat
   have w1:IntKind.i64.wrap ((byteN b i.toNat:Nat):Int)=(byteN b i.toNat:Nat):=IntWalk.i64_in _ (by omega)
   have w2:IntKind.i64.wrap (i + 1)=i + 1:=IntWalk.i64_in _ (by omega)
   simp -implicitDefEqProofs (maxSteps:=1000000) only [x_s_l5Get,go_sem,g0,g5,List.getElem?_eq_getElem hk,eb,w1]
   repeat refine ⟨sc,?_⟩
   try exact sf
   exact D2 (c_s_ByteSign _ _) w2 e
  ·have n5:cs=5:=eq_of_beq g5
   subst n5
   have e:signIn 5 b i=eucSign b i:=rfl
   simp -implicitDefEqProofs (maxSteps:=1000000) only [x_s_l5Get,go_sem]
   repeat refine ⟨sc,?_⟩
   try exact sf
   exact D1 (c_s_EucSign b i hb) e
 ·have n0:cs=0:=eq_of_beq g0
  subst n0
  have e:signIn 0 b i=getSign b i:=rfl
  simp -implicitDefEqProofs (maxSteps:=1000000) only [x_s_l5Get,go_sem]
  repeat refine ⟨sc,?_⟩
  try exact sf
  exact D1 (c_s_GetSign b i (by omega)) e
def x_i_Decode:FnX:=⟨35,[.tmp 4,.tmp 5],
  .q [.op 4 (.mv (.k (.one (.pv (.string ⟨#[]⟩))))),.F 5]
 (.seq (.q [.m 11 0,.c 12 196 [11],.N 13 12]
 (.c 13 (.q [.op 4 (.mv (.k (.one (.pv (.string ⟨#[]⟩))))),.F 5]
 .ret)))
 (.q [.op 14 (.bslice 1 []),.m 6 14]
 (.seq (.q [.i 7 0]
 (.block 0 (.loop [0,1,6,7] (.seq (.q [.m 15 7,.m 16 1,.n 17 16,.b 18 .lss 15 17]
 (.cond 18 .skip (.exit 0)))
 (.block 1 (.q [.m 20 0,.m 21 1,.m 22 7,.c 23 197 [20,21,22],.m 19 23,.e 24 19 0,.e 25 19 1,.e 26 19 2,.m 8 24,.m 9 25,.m 10 26]
 (.seq (.q [.m 27 10,.N 28 27]
 (.c 28 (.q [.op 4 (.mv (.k (.one (.pv (.string ⟨#[]⟩))))),.F 5]
 .ret)))
 (.q [.m 29 6,.m 30 8,.c 31 198 [29,30],.m 6 31]
 (.reg [.m 32 9,.m 7 32])))))))))
 (.norm [6] (.q [.m 33 6,.op 34 (.conv .b2s (.t 33)),.m 4 34,.T 5]
 .ret)))))⟩
theorem r_i_Decode {Te:TE} (c_i_isSet:C_i_isSet Te) (c_i_signIn:C_i_signIn Te) (c_i_PutSign:C_i_PutSign Te):C_i_Decode (RF Te x_i_Decode):=by
 intro cs b hb
 cases g:win cs 0 5
 ·have e:decode cs b=(⟨#[]⟩,false):=by rw [decode,g]; rfl
  refine X0 x_i_Decode.eq_1 ?_
  exact D2 (c_i_isSet _) g e
 ·have e:decode cs b=decGo cs b b.length 0 []:=by rw [decode,g]; rfl
  rw [e]
  generalize hD:decGo cs b b.length 0 []=D
  refine X0 x_i_Decode.eq_1 ?_
  refine C1 (c_i_isSet _) g ?_
  refine loop_of (σ:=Nat×Nat×List UInt8) (fun x=>⟨[(0,.one (.pv (.int .i64 cs))),(1,.one (.ro 1 (b.map uR))),(6,.one (.rf 37 0 [] 1 0 x.2.2.length)),(7,.one (.pv (.int .i64 x.2.1)))],[],[(0,[iT cs]),(1,[slT false 1 uR b]),(37,[slT true 1 uR x.2.2])]⟩) (fun x=>x.2.1≤b.length∧b.length≤x.1 + x.2.1∧x.2.2.length≤4 * x.2.1∧decGo cs b x.1 x.2.1 x.2.2=D) (fun x=>b.length - x.2.1) (b.length,0,[]) ?_ ⟨Nat.zero_le _,Nat.le_refl _,Nat.zero_le _,hD⟩ ?_
  ·simp -implicitDefEqProofs (maxSteps:=1000000) only [go_sem]
   try rfl
  ·rintro ⟨fu,i,out⟩ ⟨hi,hf,ho,hd⟩
   simp only at hi hf ho hd
   cases q:decide ((i:Int) < (b.length:Int))
   ·have hq:¬ (i:Int) < (b.length:Int):=by simpa using q
    rw [dec_end hq] at hd
    subst hd
    refine G1 q ?_
    refine ⟨areBytes_uR out,?_⟩
    rw [bytesOf_uD]
    try rfl
   ·have hq:(i:Int) < (b.length:Int):=by simpa using q
    obtain ⟨f,rfl⟩:∃ f,fu=f + 1:=⟨fu - 1,by omega⟩
    have hs:=c_i_signIn cs b i (by omega) ⟨by omega,hq⟩
    cases g2:(signIn cs b i).2.2
    ·rw [dec_bad hq g2] at hd
     subst hd
     refine G1 q ?_
     exact D1 (hs) g2
    ·rw [dec_step hq g2] at hd
     have hn:=signIn_next ⟨by omega,hq⟩ g2
     generalize signIn cs b i=r at hs g2 hd hn
     obtain ⟨n,nx,ok⟩:=r
     simp only at hs g2 hd hn
     subst g2
     obtain ⟨j,rfl⟩:∃ j:Nat,nx=j:=⟨nx.toNat,by omega⟩
     have hl:=putSign_len out n
     refine G1 q ?_
     refine C0 (hs) ?_
     refine C0 (c_i_PutSign out n (by omega)) ?_
     exact ⟨(f,j,putSign out n),rfl,⟨by simp only; omega,by simp only; omega,by simp only; omega,hd⟩,by simp only; omega⟩
def x_u_AppendRune:FnX:=⟨16,[.tmp 4],
  .q [.op 4 (.mv (.k (.one (.nils 1))))]
 (.seq (.q [.m 5 1,.op 6 (.conv (.int .u32) (.t 5)),.op 7 (.bin .leq (.t 6) (.k (.one (.pv (.int .u32 127)))))]
 (.c 7 (.q [.m 8 0,.m 9 1,.op 10 (.conv (.int .u8) (.t 9)),.op 11 (.bslice 1 [(.t 10)]),.op 12 (.app 1 1 (.t 8) (.t 11)),.m 4 12]
 .ret)))
 (.q [.m 13 0,.m 14 1,.op 15 (.call 241 [1,0] [(.t 13),(.t 14)]),.m 4 15]
 .ret))⟩
theorem r_u_AppendRune {Te:TE} (c_u_appendRuneNonASCII:C_u_appendRuneNonASCII Te):C_u_AppendRune (RF Te x_u_AppendRune):=by
 intro b m hb hm
 refine run0 ?_
 have w32:IntKind.u32.wrap (m:Int)=(m:Int):=by rw [IntKind.wrap_u32]; omega
 cases q:decide ((m:Int)≤127)
 ·have hq:¬ m≤127:=by simp only [decide_eq_false_iff_not] at q; omega
  simp -implicitDefEqProofs (maxSteps:=1000000) only [x_u_AppendRune,go_sem,w32,q]
  repeat refine ⟨sc,?_⟩
  try exact sf
  refine .of (c_u_appendRuneNonASCII b m hb ⟨by omega,hm⟩) ?_
  try simp -implicitDefEqProofs (maxSteps:=1000000) only [go_sem,List.length_append]
  repeat refine ⟨sc,?_⟩
  try exact sf
  rw [← List.length_append,take_map]
 ·have hq:m≤127:=by simp only [decide_eq_true_eq] at q; omega
  have ee:List.take (b.length + 1) (List.map uR b++[[uT (mkU (m:Int))]])=List.map uR (b++enc8 m):=by
   rw [List.take_of_length_le (by simp),mkU_nat]
   simp only [enc8,if_pos hq,List.map_append,List.map_cons,List.map_nil]
  simp -implicitDefEqProofs (maxSteps:=1000000) only [x_u_AppendRune,go_sem,w32,q,mkU_wrap,ee]
  repeat refine ⟨sc,?_⟩
  try exact sf
def x_i_PutSign:FnX:=⟨17,[.tmp 4],
  .q [.op 4 (.mv (.k (.one (.nils 1))))]
 (.q [.m 6 0,.op 7 (.bslice 1 [(.t 6)]),.c 8 152 [7],.m 5 8]
 (.seq (.q [.m 9 1,.c 10 226 [9],.N 11 10]
 (.c 11 (.q [.m 12 5,.m 4 12]
 .ret)))
 (.q [.m 13 5,.m 14 1,.op 15 (.conv (.int .i32) (.t 14)),.op 16 (.call 227 [1,0] [(.t 13),(.t 15)]),.m 4 16]
 .ret)))⟩
theorem r_i_PutSign {Te:TE} (c_i_joined:C_i_joined Te) (c_i_SignOk:C_i_SignOk Te) (c_u_AppendRune:C_u_AppendRune Te):C_i_PutSign (RF Te x_i_PutSign):=by
 intro b n hb
 refine X0 x_i_PutSign.eq_1 ?_
 refine .of (c_i_joined [b] (by rw [flat1]; omega) (by show 1≤2 ^ 31; decide)) ?_
 try simp -implicitDefEqProofs (maxSteps:=1000000) only [go_sem,flat1]
 repeat refine ⟨sc,?_⟩
 try exact sf
 refine C0 (c_i_SignOk _) ?_
 cases hn:signOk n
 ·try simp -implicitDefEqProofs (maxSteps:=1000000) only [go_sem,putSign,hn,if_false,take_map]
  repeat refine ⟨sc,?_⟩
  try exact sf
  try rfl
 ·obtain ⟨h0,h1,h2⟩:=signOk_in hn
  obtain ⟨m,rfl⟩:∃ m:Nat,n=m:=⟨n.toNat,by omega⟩
  have ep:putSign b (m:Int)=b++enc8 m:=by simp only [putSign,hn,if_true,Int.toNat_natCast]
  have w:IntKind.i32.wrap (m:Int)=(m:Int):=by rw [IntWalk.i32_in _ (by omega)]
  try simp -implicitDefEqProofs (maxSteps:=1000000) only [go_sem,w,take_map]
  repeat refine ⟨sc,?_⟩
  try exact sf
  refine .of (c_u_AppendRune b m hb ⟨by omega,by omega⟩) ?_
  try simp -implicitDefEqProofs (maxSteps:=1000000) only [go_sem,List.length_append]
  repeat refine ⟨sc,?_⟩
  try exact sf
  rw [ep]
  try rw [← List.length_append,take_map]
  try rfl
def x_i_FlushDev:FnX:=⟨44,[.cell 2 (some 4)],
  .q [.v 1 0,.op 2 (.alloc [.nils 1,.nils 2,.i 0,.F])]
 (.q [.L 7 4 1,.c 8 98 [7],.op 3 (.alloc [.nils 1,.nils 2,.i 0,.F]),.s 100001 4 3 8]
 (.seq (.q [.L 9 4 1,.c 10 194 [9],.N 11 10,.m 12 11,.z 12 (.f 13 1 3),.z 12 (.l 14 13),.r 15 12 14]
 (.c 15 (.q [.L 16 4 3,.s 100002 4 2 16]
 .ret)))
 (.q [.L 18 4 3,.op 19 (.call 207 [1] [(.t 18)]),.m 17 19,.e 20 17 0,.e 21 17 1,.s 100003 4 3 20,.m 4 21]
 (.seq (.q [.m 22 4,.N 23 22]
 (.c 23 (.q [.L 24 4 3,.s 100004 4 2 24]
 .ret)))
 (.seq (.q [.f 25 3 1,.l 26 25,.n 27 26,.i 28 0]
 (.block 0 (.loop [2,3,26,27,28] (.q [.b 29 .lss 28 27]
 (.seq (.cond 29 .skip (.exit 0))
 (.seq (.block 1 (.q [.x 30 2 26 28,.L 31 2 30,.op 6 (.alloc [.i 0,.nils 1]),.s 100005 2 6 31]
 (.draw [.f 32 3 0,.l 33 32,.f 34 6 0,.l 35 34,.f 36 6 1,.l 37 36,.op 38 (.bslice 1 [(.t 37)]),.c 39 152 [38],.x 40 1 33 35,.s 100006 1 40 39] [[],[0],[],[2],[],[4],[5],[6],[1,3,0,1,2,3,4,5,6,7],[8,7,7,0,1,2,3,4,5,6,7]])))
 (.reg [.B 41 .add 28 1,.m 28 41])))))))
 (.norm [2,3] (.q [.f 42 3 1,⟨none,none,100007,.store 1 (.t 42) (.k (.one (.nils 2)))⟩]
 (.q [.L 43 4 3,.s 100008 4 2 43]
 .ret))))))))⟩
theorem r_i_FlushDev {Te:TE} (c_i_copyDev:C_i_copyDev Te) (c_i_DevOk:C_i_DevOk Te) (c_i_burn:C_i_burn Te) (c_i_joined:C_i_joined Te):C_i_FlushDev (RF Te x_i_FlushDev):=by
 intro d hk
 have hin:=DevV.ok_in hk
 have h40:=DevV.ok_cache hk
 have hL:=hin.len (by decide)
 have hidx:=DevV.ok_idx hk
 refine X0 x_i_FlushDev.eq_1 ?_
 refine C0 (c_i_copyDev d hL) ?_
 refine C1 (c_i_DevOk d (hin.mono (by decide))) hk ?_
 cases g1:d.Down
 rotate_left
 ·have e:d.flush=d:=by rw [DevV.flush,if_pos g1]
  try simp -implicitDefEqProofs (maxSteps:=1000000) only [go_sem,g1,e,take_all,DevV.enc]
  repeat refine ⟨sc,?_⟩
  try exact sf
  try rfl
 have e:=show d.flush=if d.Fuse=0 then d.burn else ⟨flushed d.Secs d.Cache,[],d.burn.Fuse,d.burn.Down⟩ from if_neg (by rw [g1]; decide)
 refine G1 g1 ?_
 have tb:=c_i_burn d
 simp only [DevV.enc,g1] at tb
 have bc:=burn_cache d
 have bs:=burn_secs d
 cases g6:(d.Fuse==0)
 rotate_left
 ·have g7:d.Fuse=0:=by simpa using g6
  rw [if_pos g7] at e
  refine .of (tb) ?_
  try simp -implicitDefEqProofs (maxSteps:=1000000) only [go_sem,g6,take_all,e,g1,DevV.enc]
  repeat refine ⟨sc,?_⟩
  try exact sf
  try rfl
 have g7:¬ d.Fuse=0:=by simpa using g6
 rw [if_neg g7] at e
 refine C1 (tb) g6 ?_
 refine loop_of (σ:=Nat×List (List UInt8)) (fun x=>⟨[(2,.bp 2 0),(3,.bp 3 0),(26,.one (.rf 45 1 [] 2 0 d.Cache.length)),(27,.one (.pv (.int .i64 d.Cache.length))),(28,.one (.pv (.int .i64 x.1)))],[(2,[.nils 1,.nils 2,.pv (.int .i64 0),.pv (.bool false)]),(3,[.rf 45 0 [] 1 0 d.Secs.length,.rf 45 1 [] 2 0 d.Cache.length,.pv (.int .i64 d.burn.Fuse),.pv (.bool d.burn.Down)])],[(0,d.enc false),(45,[slT true 1 (secR true) x.2,Tr.sl true 2 () (mvRows d.Cache x.1),iT d.burn.Fuse,bT d.burn.Down,bT true])]⟩) (fun x=>x.1≤d.Cache.length∧x.2=flushed d.Secs (d.Cache.take x.1)) (fun x=>d.Cache.length - x.1) (0,d.Secs) ?_ ⟨Nat.zero_le _,rfl⟩ ?_
 ·simp -implicitDefEqProofs (maxSteps:=1000000) only [go_sem,bs,bc]
  try rfl
 ·rintro ⟨i,S⟩ ⟨hi,he⟩
  simp only at hi he
  have hl:S.length=d.Secs.length:=by rw [he,flushed_len]
  have hl2:(List.map (secR true) S).length=d.Secs.length:=by rw [List.length_map,hl]
  cases q:decide ((i:Int) < (d.Cache.length:Int))
  ·have k0:i=d.Cache.length:=by simp only [decide_eq_false_iff_not] at q; omega
   rw [k0,List.take_length] at he
   have et:List.take d.Secs.length (List.map (secR true) S)=List.map (secR true) S:=List.take_of_length_le (by omega)
   rw [← he] at e
   exact F3 q et e
  ·have k1:i < d.Cache.length:=by simp only [decide_eq_true_eq] at q; omega
   have hw:=hidx _ (List.getElem_mem k1)
   have hb:d.Cache[i].B.length≤2 ^ 20:=hin.2.2 _ (List.getElem_mem k1)
   have g8:decide (0≤d.Cache[i].N)=true:=decide_eq_true hw.1
   have hn:d.Cache[i].N.toNat < S.length:=by omega
   have em:=mv_get k1
   have ec:(mvRows d.Cache i).getD i []=d.Cache[i].enc true:=by rw [List.getD_eq_getElem?_getD,em]; rfl
   have ex:=mv_set k1
   have eg:=getS hn
   have es:=setS S d.Cache[i].N.toNat d.Cache[i].B
   try simp -implicitDefEqProofs (maxSteps:=1000000) only [go_sem,q,em,ec,ex,mv_len]
   repeat refine ⟨sc,?_⟩
   try exact sf
   refine .of (c_i_joined [d.Cache[i].B] (by rw [flat1]; omega) (by show 1≤2 ^ 31; decide)) ?_
   try simp -implicitDefEqProofs (maxSteps:=1000000) only [go_sem,flat1,take_all,g8,em,ec,ex,mv_len,storeAp,setCells,eg,es,hl2]
   repeat refine ⟨sc,?_⟩
   try exact sf
   refine ⟨(i + 1,S.set d.Cache[i].N.toNat d.Cache[i].B),?_,⟨k1,by rw [he,flushed_step k1]⟩,by simp only; omega⟩
   rw [IntWalk.i64_in _ (by omega)]
   rfl
def x_l_markActS_5:XCode:=.q [.m 49 0,.m 50 5,.m 51 1,.x 52 6 49 50,.f 53 52 5,.s 100006 1 53 51]
 (.reg [.m 54 1,.B 55 .add 54 1,.m 1 55])
def x_l_markActS_4:XCode:=.q [.m 41 0,.m 42 5,.m 43 1,.c 44 38 [43],.x 45 6 41 42,.f 46 45 4,.s 100005 1 46 44]
 (.q [.m 47 1,.B 48 .add 47 1,.m 1 48]
 x_l_markActS_5)
def x_l_markActS_3:XCode:=.q [.m 33 0,.m 34 5,.m 35 1,.c 36 38 [35],.x 37 6 33 34,.f 38 37 3,.s 100004 1 38 36]
 (.q [.m 39 1,.B 40 .add 39 1,.m 1 40]
 x_l_markActS_4)
def x_l_markActS_2:XCode:=.q [.m 26 0,.m 27 5,.m 28 1,.x 29 6 26 27,.f 30 29 2,.s 100003 1 30 28]
 (.q [.m 31 1,.B 32 .add 31 1,.m 1 32]
 x_l_markActS_3)
def x_l_markActS_1:XCode:=.q [.m 19 0,.m 20 5,.m 21 1,.x 22 6 19 20,.f 23 22 1,.s 100002 1 23 21]
 (.q [.m 24 1,.B 25 .add 24 1,.m 1 25]
 x_l_markActS_2)
def x_l_markActS:FnX:=⟨57,[.tmp 4],
  .q [.i 4 0]
 (.seq (.q [.i 5 0]
 (.block 0 (.loop [0,1,5] (.seq (.q [.m 6 5,.m 7 0,.n 8 7,.b 9 .lss 6 8]
 (.cond 9 .skip (.exit 0)))
 (.seq (.block 1 (.q [.m 12 0,.m 13 5,.m 14 1,.x 15 6 12 13,.f 16 15 0,.s 100001 1 16 14]
 (.q [.m 17 1,.B 18 .add 17 1,.m 1 18]
 x_l_markActS_1)))
 (.reg [.m 10 5,.B 11 .add 10 1,.m 5 11]))))))
 (.norm [1] (.q [.m 56 1,.m 4 56]
 .ret)))⟩
theorem r_l_markActS {Te:TE} (c_l_markText:C_l_markText Te):C_l_markActS (RF Te x_l_markActS):=by
 intro l k hl hk
 refine run0 ?_
 simp -implicitDefEqProofs (maxSteps:=1000000) (disch:=omega) only [x_l_markActS,go_sem,IntWalk.i64_in]
 refine loop_of (σ:=Nat) (fun i=>⟨[(0,.one (.rf 0 0 [] 6 0 l.length)),(1,.one (.pv (.int .i64 (k + (6 * i:Nat))))),(5,.one (.pv (.int .i64 i)))],[],[(0,[.sl true 6 () ((marks 6 mkAct i k).map ActV.row++(l.drop i).map ActV.row)]),(1,[iT k])]⟩) (fun i=>i≤l.length) (fun i=>l.length - i) 0 ?_ (Nat.zero_le _) ?_
 ·simp -implicitDefEqProofs (maxSteps:=1000000) only [go_sem]; simp [marks]
 ·intro i hi
  simp -implicitDefEqProofs (maxSteps:=1000000) only [go_sem]
  refine ⟨fun h=>?_,fun h=>?_⟩
  ·have hi':i < l.length:=by simp only [decide_eq_true_eq] at h; omega
   try simp -implicitDefEqProofs (maxSteps:=1000000) (disch:=omega) only [go_sem,storeAp,setCells,List.length_set,List.set_set,mark_len ActV.row 6 mkAct l k hi,List.getD_eq_getElem?_getD,mark_get ActV.row 6 mkAct l k hi',mark_reget ActV.row 6 mkAct l k hi',Option.getD_some,IntWalk.i64_in]
   repeat (first | refine ⟨by decide,?_⟩ | refine ⟨decide_eq_true hi',?_⟩)
   simp -implicitDefEqProofs (maxSteps:=1000000) (disch:=omega) only [x_l_markActS_1,go_sem,storeAp,setCells,List.length_set,List.set_set,mark_len ActV.row 6 mkAct l k hi,List.getD_eq_getElem?_getD,mark_get ActV.row 6 mkAct l k hi',mark_reget ActV.row 6 mkAct l k hi',Option.getD_some,IntWalk.i64_in]
   repeat (first | refine ⟨by decide,?_⟩ | refine ⟨decide_eq_true hi',?_⟩)
   simp -implicitDefEqProofs (maxSteps:=1000000) (disch:=omega) only [x_l_markActS_2,go_sem,storeAp,setCells,List.length_set,List.set_set,mark_len ActV.row 6 mkAct l k hi,List.getD_eq_getElem?_getD,mark_get ActV.row 6 mkAct l k hi',mark_reget ActV.row 6 mkAct l k hi',Option.getD_some,IntWalk.i64_in]
   repeat (first | refine ⟨by decide,?_⟩ | refine ⟨decide_eq_true hi',?_⟩)
   simp -implicitDefEqProofs (maxSteps:=1000000) (disch:=omega) only [x_l_markActS_3,go_sem,storeAp,setCells,List.length_set,List.set_set,mark_len ActV.row 6 mkAct l k hi,List.getD_eq_getElem?_getD,mark_get ActV.row 6 mkAct l k hi',mark_reget ActV.row 6 mkAct l k hi',Option.getD_some,IntWalk.i64_in]
   repeat (first | refine ⟨by decide,?_⟩ | refine ⟨decide_eq_true hi',?_⟩)
   refine .of (c_l_markText _ (by omega)) ?_
   simp -implicitDefEqProofs (maxSteps:=1000000) (disch:=omega) only [go_sem,storeAp,setCells,List.length_set,List.set_set,mark_len ActV.row 6 mkAct l k hi,List.getD_eq_getElem?_getD,mark_get ActV.row 6 mkAct l k hi',mark_reget ActV.row 6 mkAct l k hi',Option.getD_some,IntWalk.i64_in]
   repeat (first | refine ⟨by decide,?_⟩ | refine ⟨decide_eq_true hi',?_⟩)
   simp -implicitDefEqProofs (maxSteps:=1000000) (disch:=omega) only [x_l_markActS_4,go_sem,storeAp,setCells,List.length_set,List.set_set,mark_len ActV.row 6 mkAct l k hi,List.getD_eq_getElem?_getD,mark_get ActV.row 6 mkAct l k hi',mark_reget ActV.row 6 mkAct l k hi',Option.getD_some,IntWalk.i64_in]
   repeat (first | refine ⟨by decide,?_⟩ | refine ⟨decide_eq_true hi',?_⟩)
   refine .of (c_l_markText _ (by omega)) ?_
   simp -implicitDefEqProofs (maxSteps:=1000000) (disch:=omega) only [go_sem,storeAp,setCells,List.length_set,List.set_set,mark_len ActV.row 6 mkAct l k hi,List.getD_eq_getElem?_getD,mark_get ActV.row 6 mkAct l k hi',mark_reget ActV.row 6 mkAct l k hi',Option.getD_some,IntWalk.i64_in]
   repeat (first | refine ⟨by decide,?_⟩ | refine ⟨decide_eq_true hi',?_⟩)
   simp -implicitDefEqProofs (maxSteps:=1000000) (disch:=omega) only [x_l_markActS_5,go_sem,storeAp,setCells,List.length_set,List.set_set,mark_len ActV.row 6 mkAct l k hi,List.getD_eq_getElem?_getD,mark_get ActV.row 6 mkAct l k hi',mark_reget ActV.row 6 mkAct l k hi',Option.getD_some,IntWalk.i64_in]
   repeat (first | refine ⟨by decide,?_⟩ | refine ⟨decide_eq_true hi',?_⟩)
   refine ⟨i + 1,?_,hi',by omega⟩
   rw [← mark_set ActV.row 6 mkAct l k hi',show k + ((6 * (i + 1):Nat):Int)=k + (6 * i:Nat) + 1 + 1 + 1 + 1 + 1 + 1 by omega]
   rfl
  ·have:i=l.length:=by simp only [decide_eq_false_iff_not] at h; omega
   subst this
   simp -implicitDefEqProofs (maxSteps:=1000000) only [go_sem,mark_end]
def x_i_GetSign:FnX:=⟨35,[.tmp 4,.tmp 5,.tmp 6],
  .q [.i 4 0,.i 5 0,.F 6]
 (.seq (.q [.m 9 1,.B 10 .lss 9 0,.m 11 10,.z 11 (.m 12 1),.z 11 (.m 13 0),.z 11 (.n 14 13),.z 11 (.b 15 .geq 12 14),.r 16 11 15]
 (.c 16 (.q [.i 4 0,.i 5 0,.F 6]
 .ret)))
 (.q [.m 18 0,.m 19 1,.op 20 (.slice 1 (.t 18) (some (.t 19)) none),.c 21 236 [20],.m 17 21,.e 22 17 0,.e 23 17 1,.m 7 22,.m 8 23]
 (.seq (.q [.m 24 7,.op 25 (.bin .eql (.t 24) (.k (.one (.pv (.int .i32 65533))))),.m 26 25,.y 26 (.m 27 8),.y 26 (.B 28 .lss 27 2),.a 29 26 28]
 (.c 29 (.q [.i 4 0,.i 5 0,.F 6]
 .ret)))
 (.q [.m 30 7,.op 31 (.conv (.int .i64) (.t 30)),.m 32 1,.m 33 8,.b 34 .add 32 33,.m 4 31,.m 5 34,.T 6]
 .ret))))⟩
theorem r_i_GetSign {Te:TE} (c_u_DecodeRune:C_u_DecodeRune Te):C_i_GetSign (RF Te x_i_GetSign):=by
 intro b i hb
 refine run0 ?_
 cases q1:decide (i < 0)
 ·cases q2:decide (i≥b.length)
  ·have hi:0≤i∧i < b.length:=by simp only [decide_eq_false_iff_not] at q1 q2; omega
   have hne:b.drop i.toNat≠[]:=by
    intro e
    have:=congrArg List.length e
    rw [List.length_drop] at this
    simp only [List.length_nil] at this
    omega
   simp -implicitDefEqProofs (maxSteps:=1000000) only [x_i_GetSign,go_sem,q1,q2,drop_map_take]
   repeat refine ⟨sc,?_⟩
   try exact sf
   refine C0 (c_u_DecodeRune (b.drop i.toNat) hne) ?_
   have hw:=Lib.decodeL_width (b.drop i.toNat)
   have hc:=decodeL_bound (b.drop i.toNat)
   have hl:=Lib.decodeL_le (b.drop i.toNat) hne
   have hld:(b.drop i.toNat).length≤b.length:=by rw [List.length_drop]; omega
   by_cases hd:(Lib.decodeL (b.drop i.toNat)).1=65533∧(Lib.decodeL (b.drop i.toNat)).2=1
   ·have e1:((((Lib.decodeL (b.drop i.toNat)).1:Nat):Int)==65533)=true:=by rw [hd.1]; rfl
    have e2:decide ((((Lib.decodeL (b.drop i.toNat)).2:Nat):Int) < 2)=true:=by rw [hd.2]; rfl
    have e:=getSign_bad hi (show signAt _=none from if_pos hd)
    exact F3 e1 e2 e
   ·have e:=getSign_good hi (show signAt _=some _ from if_neg hd)
    have w1:IntKind.i64.wrap (((Lib.decodeL (b.drop i.toNat)).1:Nat):Int)=((Lib.decodeL (b.drop i.toNat)).1:Nat):=IntWalk.i64_in _ (by omega)
    have w2:IntKind.i64.wrap (i + (((Lib.decodeL (b.drop i.toNat)).2:Nat):Int))=i + ((Lib.decodeL (b.drop i.toNat)).2:Nat):=IntWalk.i64_in _ (by omega)
    cases e1:((((Lib.decodeL (b.drop i.toNat)).1:Nat):Int)==65533)
    ·exact F4 e1 e w1 w2
    ·have e2:decide ((((Lib.decodeL (b.drop i.toNat)).2:Nat):Int) < 2)=false:=by
      refine decide_eq_false fun q=>hd ⟨?_,by omega⟩
      have:=eq_of_beq e1
      omega
     try simp -implicitDefEqProofs (maxSteps:=1000000) only [go_sem,e1,e2,e,w1,w2]
     repeat refine ⟨sc,?_⟩
     try exact sf
  ·have e:=getSign_no (b:=b) (i:=i) (by simp only [decide_eq_true_eq] at q2; omega)
   simp -implicitDefEqProofs (maxSteps:=1000000) only [x_i_GetSign,go_sem,q1,q2,e]
   repeat refine ⟨sc,?_⟩
   try exact sf
 ·have e:=getSign_no (b:=b) (i:=i) (by simp only [decide_eq_true_eq] at q1; omega)
  simp -implicitDefEqProofs (maxSteps:=1000000) only [x_i_GetSign,go_sem,q1,e]
  repeat refine ⟨sc,?_⟩
  try exact sf
def x_i_Signs:FnX:=⟨22,[.tmp 2,.tmp 3],
  .q [.op 2 (.mv (.k (.one (.nils 1)))),.F 3]
 (.seq (.q [.m 7 0,.c 8 251 [7],.N 9 8]
 (.c 9 (.q [.op 2 (.mv (.k (.one (.nils 1)))),.F 3]
 .ret)))
 (.q [.op 10 (.bslice 1 []),.m 4 10]
 (.seq (.rng 0 0 11 12 13 14 [4,12] (.block 1 (.q [.e 15 13 2,.m 6 15]
 (.reg [.m 16 4,.m 17 6,.op 18 (.conv (.int .i64) (.t 17)),.op 19 (.bslice 1 [(.t 18)]),.op 20 (.app 1 8 (.t 16) (.t 19)),.m 4 20]))))
 (.norm [4] (.q [.m 21 4,.m 2 21,.T 3]
 .ret)))))⟩
theorem r_i_Signs {Te:TE} (c_u_ValidString:C_u_ValidString Te):C_i_Signs (RF Te x_i_Signs):=by
 intro s hs
 refine X0 x_i_Signs.eq_1 ?_
 refine .of (c_u_ValidString s (Nat.le_trans hs (by decide))) ?_
 cases hv:Lib.validD s.data.toList
 ·try simp -implicitDefEqProofs (maxSteps:=1000000) only [go_sem,signsOf,hv,if_false]
  repeat refine ⟨sc,?_⟩
  try exact sf
  try rfl
 ·have e:signsOf s=(signs s.data.toList,true):=by simp only [signsOf,hv,if_true]
  simp -implicitDefEqProofs (maxSteps:=1000000) only [go_sem,true_implies,false_implies,e]
  refine rng_of (σ:=List Int) s (fun r acc=>⟨[(4,.one (.rf 23 0 [] 1 0 acc.length)),(12,itV r)],[],[(0,[sT s]),(23,[.sl true 1 () (acc.map iR)])]⟩) (fun p acc=>p≤s.size∧acc.length≤p∧acc++signs (s.data.toList.drop p)=signs s.data.toList) [] ?_ ?_ ?_ ⟨Nat.zero_le _,Nat.le_refl _,by simp⟩ ?_ ?_ ?_
  ·rfl
  ·rfl
  ·intro r
   simp -implicitDefEqProofs (maxSteps:=1000000) only [rngIn_mk,go_sem]
   try rfl
  ·intro r y
   exact ⟨rfl,rfl⟩
  ·rintro r p acc ⟨hp,hl,ha⟩ hlt
   have hne:s.data.toList.drop p≠[]:=by
    intro e
    have:=congrArg List.length e
    rw [List.length_drop,sizeL] at this
    simp only [List.length_nil] at this
    omega
   have ed:=Lib.decodeL_drop s p
   have hw:=Lib.decodeL_width (s.data.toList.drop p)
   have hc:=decodeL_bound (s.data.toList.drop p)
   have hle:=Lib.decodeL_le _ hne
   rw [List.length_drop,sizeL] at hle
   rw [signs_step hne,List.drop_drop] at ha
   rw [← ed]
   generalize Lib.decodeL (s.data.toList.drop p)=d at hw hc hle ha
   have w:IntKind.i64.wrap ((d.1:Nat):Int)=(d.1:Nat):=IntWalk.i64_in _ (by omega)
   have ea:List.take acc.length (List.map iR acc)=List.map iR acc:=take_map iR acc
   try simp -implicitDefEqProofs (maxSteps:=1000000) only [go_sem,rngOn_mk,w,ea]
   repeat refine ⟨sc,?_⟩
   try exact sf
   refine ⟨acc++[((d.1:Nat):Int)],?_,by omega,by simp; omega,by rw [← ha]; simp [Nat.add_comm]⟩
   rw [show List.map iR acc++[[Tr.pv (Value.int .i64 ((d.1:Nat):Int))]]=List.map iR (acc++[((d.1:Nat):Int)]) by simp]
   simp
  ·rintro r p acc ⟨hp,hl,ha⟩ hge
   have hd:s.data.toList.drop p=[]:=List.drop_eq_nil_of_le (by rw [sizeL]; exact hge)
   rw [hd,signs_nil,List.append_nil] at ha
   subst ha
   try simp -implicitDefEqProofs (maxSteps:=1000000) only [go_sem,rngOff_mk]
   repeat refine ⟨sc,?_⟩
   try exact sf
def x_i_Walks:FnX:=⟨17,[.tmp 2],
  .q [.F 2]
 (.q [.m 3 0,.B 4 .eql 3 2,.m 5 4,.z 5 (.m 6 0),.z 5 (.B 7 .eql 6 3),.r 8 5 7,.m 9 8,.z 9 (.m 10 0),.z 9 (.B 11 .eql 10 4),.r 12 9 11,.m 13 12,.z 13 (.m 14 0),.z 13 (.B 15 .eql 14 6),.r 16 13 15,.m 2 16]
 .ret)⟩
theorem r_i_Walks {Te:TE}:C_i_Walks (RF Te x_i_Walks):=by
 intro p
 refine run0 ?_
 cases g1:(p==2)
 ·cases g2:(p==3)
  ·cases g3:(p==4) <;> simp -implicitDefEqProofs (maxSteps:=1000000) only [x_i_Walks,go_sem,g1,g2,g3,walks]
  ·simp -implicitDefEqProofs (maxSteps:=1000000) only [x_i_Walks,go_sem,g1,g2,walks]
 ·simp -implicitDefEqProofs (maxSteps:=1000000) only [x_i_Walks,go_sem,g1,walks]
def x_s_Walks:FnX:=⟨9,[.tmp 2],
  .q [.F 2]
 (.q [.m 3 0,.op 4 (.call 42 [0,0,0] [(.t 3),(.i 2),(.i 4)]),.m 5 4,.z 5 (.m 6 0),.z 5 (.B 7 .eql 6 6),.r 8 5 7,.m 2 8]
 .ret)⟩
theorem r_s_Walks {Te:TE} (c_s_l1In:C_s_l1In Te):C_s_Walks (RF Te x_s_Walks):=by
 intro p
 refine run0 ?_
 have key:walks p=(win p 2 4||(p==6)):=by
  simp only [walks,win]
  by_cases h2:p=2
  ·subst h2; rfl
  by_cases h3:p=3
  ·subst h3; rfl
  by_cases h4:p=4
  ·subst h4; rfl
  have:(decide (p≥2)&&decide (p≤4))=false:=by simp; omega
  simp [h2,h3,h4,this]
 simp -implicitDefEqProofs (maxSteps:=1000000) only [x_s_Walks,go_sem,key]
 refine .of (c_s_l1In _ _ _) ?_
 cases g1:win p 2 4 <;> simp -implicitDefEqProofs (maxSteps:=1000000) only [go_sem]
def x_i_Apply1:FnX:=⟨9,[.tmp 3],
  .q [.v 2 0,.F 3]
 (.q [.f 4 2 0,.l 5 4,.f 6 1 8,.l 7 6,.b 8 .eql 5 7,.m 3 8]
 .ret)⟩
theorem r_i_Apply1 {Te:TE}:C_i_Apply1 (RF Te x_i_Apply1):=by
 intro x r
 refine run0 ?_
 simp -implicitDefEqProofs (maxSteps:=1000000) only [x_i_Apply1,go_sem]
 repeat refine ⟨sc,?_⟩
 try exact sf
def x_z_IndexFuncimplApply1:FnX:=⟨19,[.tmp 4],
  .q [.i 4 0]
 (.seq (.q [.m 6 0,.n 7 6,.i 8 0]
 (.block 0 (.loop [0,1,7,8] (.q [.b 9 .lss 8 7]
 (.seq (.cond 9 .skip (.exit 0))
 (.seq (.block 1 (.q [.m 10 8,.m 5 10]
 (.q [.m 11 1,.m 12 0,.m 13 5,.x 14 7 12 13,.L 15 7 14,.op 16 (.dcall 203 [0,15] [(.t 15)] (.t 11))]
 (.c 16 (.q [.m 17 5,.m 4 17]
 .ret)))))
 (.reg [.B 18 .add 8 1,.m 8 18])))))))
 (.norm [] (.q [.i 4 (-1)]
 .ret)))⟩
theorem r_z_IndexFuncimplApply1 {Te:TE} (c_i_Apply1:C_i_Apply1 Te):C_z_IndexFuncimplApply1 (RFV Te 203 x_z_IndexFuncimplApply1):=by
 intro l r hl
 refine run0V ?_
 simp -implicitDefEqProofs (maxSteps:=1000000) only [x_z_IndexFuncimplApply1,go_sem]
 repeat refine ⟨sc,?_⟩
 try exact sf
 refine loop_of (σ:=Nat) (fun i=>⟨[(0,.one (.ro 7 (l.map (RowV.enc false)))),(1,.fn 203 1 0),(7,.one (.pv (.int .i64 l.length))),(8,.one (.pv (.int .i64 i)))],[(1,[.pv (.int .i64 r.Kind),.pv (.string r.R.Key),.pv (.int .i64 r.R.Old.Tag),.dead,.pv (.int .i64 r.R.New.Tag),.dead,.pv (.int .i64 r.R.Has),.pv (.bool r.R.Aside),.pv (.string r.Key),.pv (.int .i64 r.N),.pv (.int .i64 r.Who),.pv (.int .i64 r.Seq),.pv (.int .i64 r.Code)])],[(0,[slT false 7 (RowV.enc false) l]),(1,r.dim)]⟩) (fun i=>i≤l.length∧∀ j (hj:j < l.length),j < i→decide (l[j].Key=r.Key)=false) (fun i=>l.length - i) 0 ?_ ⟨Nat.zero_le _,fun j _ h=>absurd h (Nat.not_lt_zero _)⟩ ?_
 ·simp -implicitDefEqProofs (maxSteps:=1000000) only [go_sem]
  try rfl
 ·rintro i ⟨hi,hp⟩
  cases q:decide ((i:Int) < (l.length:Int))
  ·have e:=rowAt_none (i:=i) (by simp only [decide_eq_false_iff_not] at q; omega) hp
   exact F2 q e
  ·have k1:i < l.length:=by simp only [decide_eq_true_eq] at q; omega
   refine G2 q (List.getElem?_eq_getElem k1) ?_
   refine C0 (c_i_Apply1 l[i] r) ?_
   cases g:decide (l[i].Key=r.Key)
   ·refine G1 g ?_
    refine ⟨i + 1,?_,⟨k1,rowAt_step k1 hp g⟩,by omega⟩
    rw [IntWalk.i64_in _ (by omega)]
    rfl
   ·have e:=(rowAt_hit k1 hp g).1
    exact F2 g e
end Go.X

