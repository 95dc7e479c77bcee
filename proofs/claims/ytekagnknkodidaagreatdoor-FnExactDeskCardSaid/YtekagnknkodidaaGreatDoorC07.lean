/- Texts: CVe_2 CVzf_6 CVj_3 CVg_3 CVu CEb CEb_3 CEa_5 CVf CVo_2 CK_3. -/
import Derived.Test.YtekagnknkodidaaGreatDoorC04
set_option linter.unusedVariables false
set_option linter.unusedSimpArgs false
namespace Go.X
set_option maxRecDepth 100000
set_option maxHeartbeats 8000000
def x_i_RowOk:FnX:=⟨89,[.tmp 2],
  .q [.v 1 0,.F 2]
 (.seq (.q [.f 9 1 0,.l 10 9,.c 11 157 [10],.N 12 11,.m 13 12,.z 13 (.f 14 1 5),.z 13 (.l 15 14),.z 13 (.op 16 (.call 57 [0,0,0] [(.t 15),(.i 1),(.i 3)])),.z 13 (.N 17 16),.r 18 13 17]
 (.c 18 (.q [.F 2]
 .ret)))
 (.q [.f 20 1 1,.L 21 2 20,.c 22 104 [21],.m 19 22,.e 23 19 0,.e 24 19 1,.m 3 23,.m 4 24]
 (.q [.f 26 1 3,.L 27 2 26,.c 28 104 [27],.m 25 28,.e 29 25 0,.e 30 25 1,.m 5 29,.m 6 30]
 (.q [.f 31 1 1,.L 32 2 31,.op 33 (.build [.i 0,.nils 1] []),.c 34 113 [32,33],.m 7 34]
 (.seq (.q [.f 35 1 5,.l 36 35,.B 37 .neq 36 2]
 (.c 37 (.reg [.f 38 1 1,.L 39 2 38,.c 40 155 [39],.m 41 40,.y 41 (.f 42 1 1),.y 41 (.f 43 42 0),.y 41 (.l 44 43),.y 41 (.B 45 .neq 44 0),.a 46 41 45,.m 47 46,.y 47 (.m 48 4),.y 47 (.m 49 48),.z 49 (.f 50 1 6),.z 49 (.l 51 50),.z 49 (.m 52 51),.y 52 (.f 53 1 5),.y 52 (.l 54 53),.y 52 (.B 55 .eql 54 1),.z 49 (.a 56 52 55),.y 47 (.r 57 49 56),.a 58 47 57,.m 7 58])))
 (.q [.f 59 1 3,.L 60 2 59,.op 61 (.build [.i 0,.nils 1] []),.c 62 113 [60,61],.m 8 62]
 (.seq (.q [.f 63 1 5,.l 64 63,.B 65 .neq 64 1]
 (.c 65 (.reg [.f 66 1 3,.f 67 66 0,.l 68 67,.B 69 .eql 68 0,.m 70 69,.y 70 (.m 71 6),.a 72 70 71,.m 8 72])))
 (.q [.m 73 7,.m 74 73,.y 74 (.m 75 8),.a 76 74 75,.m 77 76,.y 77 (.f 78 1 5),.y 77 (.l 79 78),.y 77 (.B 80 .neq 79 3),.y 77 (.m 81 80),.z 81 (.f 82 1 1),.z 81 (.L 83 2 82),.z 81 (.f 84 1 3),.z 81 (.L 85 2 84),.z 81 (.c 86 212 [83,85]),.y 77 (.r 87 81 86),.a 88 77 87,.m 2 88]
 .ret))))))))⟩
theorem r_i_RowOk {Te:TE} (c_i_NameOk:C_i_NameOk Te) (c_i_within:C_i_within Te) (c_i_CellText:C_i_CellText Te) (c_i_sameCell:C_i_sameCell Te) (c_i_CellOk:C_i_CellOk Te) (c_i_SameText:C_i_SameText Te):C_i_RowOk (RF Te x_i_RowOk):=by
 intro r h
 obtain ⟨hk,_⟩:=h
 refine X0 x_i_RowOk.eq_1 ?_
 refine C0 (c_i_NameOk r.Key hk) ?_
 cases g1:nameOk r.Key
 ·have e:=rowOk_name (r:=r) g1
  exact F1 e
 refine G0 ?_
 refine C0 (c_i_within _ _ _) ?_
 cases g2:win r.Has 1 3
 ·have e:=rowOk_has (r:=r) g2
  exact F1 e
 have h3:=win13 g2
 obtain ⟨key,old,new,has,aside⟩:=r
 simp only at h3 g1 hk
 clear g2
 rcases h3 with rfl | rfl | rfl
 ·skip
  have e:=rowOk_1 (o:=old) (n:=new) (a:=aside) g1
  refine G0 ?_
  refine C0 (c_i_CellText old) ?_
  refine C0 (c_i_CellText new) ?_
  refine .of (c_i_sameCell old ⟨0,[]⟩) ?_
  try simp -implicitDefEqProofs (maxSteps:=1000000) only [go_sem,CellV.no]
  repeat refine ⟨sc,?_⟩
  try exact sf
  refine C0 (c_i_CellOk old) ?_
  have fin0:∀ z,z=false→True:=fun _ _=>trivial
  cases o1:old.ok
  ·refine G1 o1 ?_
   refine .of (c_i_sameCell new ⟨0,[]⟩) ?_
   try simp -implicitDefEqProofs (maxSteps:=1000000) only [go_sem,CellV.no,e,o1]
   repeat refine ⟨sc,?_⟩
   try exact sf
  ·cases o2:(old.Tag != 0)
   ·refine G2 o1 o2 ?_
    refine .of (c_i_sameCell new ⟨0,[]⟩) ?_
    try simp -implicitDefEqProofs (maxSteps:=1000000) only [go_sem,CellV.no,e,o1,o2]
    repeat refine ⟨sc,?_⟩
    try exact sf
   ·cases o3:old.text.2
    ·cases aside
     ·refine G3 o1 o2 o3 ?_
      refine .of (c_i_sameCell new ⟨0,[]⟩) ?_
      try simp -implicitDefEqProofs (maxSteps:=1000000) only [go_sem,CellV.no,e,o1,o2,o3]
      repeat refine ⟨sc,?_⟩
      try exact sf
     ·try simp -implicitDefEqProofs (maxSteps:=1000000) only [go_sem,o1,o2,o3,CellV.no]
      repeat refine ⟨sc,?_⟩
      try exact sf
      refine .of (c_i_sameCell new ⟨0,[]⟩) ?_
      try simp -implicitDefEqProofs (maxSteps:=1000000) only [go_sem,CellV.no]
      repeat refine ⟨sc,?_⟩
      try exact sf
      cases n1:((new.Tag==0)&&decide (new.B=[]))
      ·try simp -implicitDefEqProofs (maxSteps:=1000000) only [go_sem,n1,CellV.no,e,o1,o2,o3]
       repeat refine ⟨sc,?_⟩
       try exact sf
      ·try simp -implicitDefEqProofs (maxSteps:=1000000) only [go_sem,n1,CellV.no,e,o1,o2,o3]
       repeat refine ⟨sc,?_⟩
       try exact sf
    ·try simp -implicitDefEqProofs (maxSteps:=1000000) only [go_sem,o1,o2,o3,CellV.no]
     repeat refine ⟨sc,?_⟩
     try exact sf
     refine .of (c_i_sameCell new ⟨0,[]⟩) ?_
     try simp -implicitDefEqProofs (maxSteps:=1000000) only [go_sem,CellV.no]
     repeat refine ⟨sc,?_⟩
     try exact sf
     cases n1:((new.Tag==0)&&decide (new.B=[]))
     ·try simp -implicitDefEqProofs (maxSteps:=1000000) only [go_sem,n1,CellV.no,e,o1,o2,o3]
      repeat refine ⟨sc,?_⟩
      try exact sf
     ·try simp -implicitDefEqProofs (maxSteps:=1000000) only [go_sem,n1,CellV.no,e,o1,o2,o3]
      repeat refine ⟨sc,?_⟩
      try exact sf
 ·skip
  have e:=rowOk_2 (o:=old) (n:=new) (a:=aside) g1
  refine G0 ?_
  refine C0 (c_i_CellText old) ?_
  refine C0 (c_i_CellText new) ?_
  refine .of (c_i_sameCell old ⟨0,[]⟩) ?_
  try simp -implicitDefEqProofs (maxSteps:=1000000) only [go_sem,CellV.no]
  repeat refine ⟨sc,?_⟩
  try exact sf
  refine .of (c_i_sameCell new ⟨0,[]⟩) ?_
  try simp -implicitDefEqProofs (maxSteps:=1000000) only [go_sem,CellV.no]
  repeat refine ⟨sc,?_⟩
  try exact sf
  cases o1:((old.Tag==0)&&decide (old.B=[]))
  ·cases n1:(new.Tag==0)
   ·try simp -implicitDefEqProofs (maxSteps:=1000000) only [go_sem,o1,n1,e,CellV.no]
    repeat refine ⟨sc,?_⟩
    try exact sf
   ·try simp -implicitDefEqProofs (maxSteps:=1000000) only [go_sem,o1,n1,e,CellV.no]
    repeat refine ⟨sc,?_⟩
    try exact sf
  ·cases n1:(new.Tag==0)
   ·try simp -implicitDefEqProofs (maxSteps:=1000000) only [go_sem,o1,n1,e,CellV.no]
    repeat refine ⟨sc,?_⟩
    try exact sf
   ·cases n2:new.text.2
    ·try simp -implicitDefEqProofs (maxSteps:=1000000) only [go_sem,o1,n1,n2,e,CellV.no]
     repeat refine ⟨sc,?_⟩
     try exact sf
    ·try simp -implicitDefEqProofs (maxSteps:=1000000) only [go_sem,o1,n1,n2,e,CellV.no]
     repeat refine ⟨sc,?_⟩
     try exact sf
 ·skip
  have e:=rowOk_3 (o:=old) (n:=new) (a:=aside) g1
  refine G0 ?_
  refine C0 (c_i_CellText old) ?_
  refine C0 (c_i_CellText new) ?_
  refine .of (c_i_sameCell old ⟨0,[]⟩) ?_
  try simp -implicitDefEqProofs (maxSteps:=1000000) only [go_sem,CellV.no]
  repeat refine ⟨sc,?_⟩
  try exact sf
  refine C0 (c_i_CellOk old) ?_
  cases o1:old.ok
  ·refine G1 o1 ?_
   refine .of (c_i_sameCell new ⟨0,[]⟩) ?_
   try simp -implicitDefEqProofs (maxSteps:=1000000) only [go_sem,CellV.no]
   repeat refine ⟨sc,?_⟩
   try exact sf
   cases n1:(new.Tag==0)
   ·try simp -implicitDefEqProofs (maxSteps:=1000000) only [go_sem,n1,CellV.no,e,o1]
    repeat refine ⟨sc,?_⟩
    try exact sf
   ·try simp -implicitDefEqProofs (maxSteps:=1000000) only [go_sem,n1,CellV.no,e,o1]
    repeat refine ⟨sc,?_⟩
    try exact sf
  ·cases o2:(old.Tag != 0)
   ·refine G2 o1 o2 ?_
    refine .of (c_i_sameCell new ⟨0,[]⟩) ?_
    try simp -implicitDefEqProofs (maxSteps:=1000000) only [go_sem,CellV.no]
    repeat refine ⟨sc,?_⟩
    try exact sf
    cases n1:(new.Tag==0)
    ·try simp -implicitDefEqProofs (maxSteps:=1000000) only [go_sem,n1,CellV.no,e,o1,o2]
     repeat refine ⟨sc,?_⟩
     try exact sf
    ·try simp -implicitDefEqProofs (maxSteps:=1000000) only [go_sem,n1,CellV.no,e,o1,o2]
     repeat refine ⟨sc,?_⟩
     try exact sf
   ·cases o3:old.text.2
    ·cases aside
     ·try simp -implicitDefEqProofs (maxSteps:=1000000) only [go_sem,o1,o2,o3,CellV.no]
      repeat refine ⟨sc,?_⟩
      try exact sf
      refine .of (c_i_sameCell new ⟨0,[]⟩) ?_
      try simp -implicitDefEqProofs (maxSteps:=1000000) only [go_sem,CellV.no]
      repeat refine ⟨sc,?_⟩
      try exact sf
      cases n1:(new.Tag==0)
      ·try simp -implicitDefEqProofs (maxSteps:=1000000) only [go_sem,n1,CellV.no,e,o1,o2,o3]
       repeat refine ⟨sc,?_⟩
       try exact sf
      ·try simp -implicitDefEqProofs (maxSteps:=1000000) only [go_sem,n1,CellV.no,e,o1,o2,o3]
       repeat refine ⟨sc,?_⟩
       try exact sf
     ·try simp -implicitDefEqProofs (maxSteps:=1000000) only [go_sem,o1,o2,o3,CellV.no]
      repeat refine ⟨sc,?_⟩
      try exact sf
      refine .of (c_i_sameCell new ⟨0,[]⟩) ?_
      try simp -implicitDefEqProofs (maxSteps:=1000000) only [go_sem,CellV.no]
      repeat refine ⟨sc,?_⟩
      try exact sf
      cases n1:(new.Tag==0)
      ·try simp -implicitDefEqProofs (maxSteps:=1000000) only [go_sem,n1,CellV.no,e,o1,o2,o3]
       repeat refine ⟨sc,?_⟩
       try exact sf
      ·try simp -implicitDefEqProofs (maxSteps:=1000000) only [go_sem,n1,CellV.no,e,o1,o2,o3]
       repeat refine ⟨sc,?_⟩
       try exact sf
    ·try simp -implicitDefEqProofs (maxSteps:=1000000) only [go_sem,o1,o2,o3,CellV.no]
     repeat refine ⟨sc,?_⟩
     try exact sf
     refine .of (c_i_sameCell new ⟨0,[]⟩) ?_
     try simp -implicitDefEqProofs (maxSteps:=1000000) only [go_sem,CellV.no]
     repeat refine ⟨sc,?_⟩
     try exact sf
     cases n1:(new.Tag==0)
     ·try simp -implicitDefEqProofs (maxSteps:=1000000) only [go_sem,n1,CellV.no,e,o1,o2,o3]
      repeat refine ⟨sc,?_⟩
      try exact sf
     ·cases n2:new.text.2
      ·try simp -implicitDefEqProofs (maxSteps:=1000000) only [go_sem,n1,n2,CellV.no,e,o1,o2,o3]
       repeat refine ⟨sc,?_⟩
       try exact sf
      ·try simp -implicitDefEqProofs (maxSteps:=1000000) only [go_sem,n1,n2,CellV.no]
       repeat refine ⟨sc,?_⟩
       try exact sf
       refine .of (c_i_SameText old new) ?_
       try simp -implicitDefEqProofs (maxSteps:=1000000) only [go_sem,e,o1,o2,o3,n1,n2]
       repeat refine ⟨sc,?_⟩
       try exact sf
def x_s_Desk:FnX:=⟨95,[.cell 4 (some 10),.tmp 5,.tmp 6],
  .q [.v 2 0,.v 3 1,.op 4 (.alloc [.nils 1,.nils 2,.i 0,.F,.nils 7,.i 0,.nils 3,.i 0,.i 0,.i 0]),.op 5 (.mv (.k (.one (.nils 8)))),.op 6 (.mv (.k (.one (.nils 6))))]
 (.q [.op 12 (.bslice 6 []),.m 7 12]
 (.seq (.q [.L 13 8 3,.c 14 20 [13],.N 15 14,.m 16 15,.z 16 (.f 17 3 2),.z 16 (.l 18 17),.z 16 (.B 19 .lss 18 3),.r 20 16 19,.m 21 20,.z 21 (.L 22 10 2),.z 21 (.c 23 21 [22]),.z 21 (.N 24 23),.r 25 21 24]
 (.c 25 (.q [.L 26 10 2,.c 27 22 [26],.op 28 (.bslice 8 []),.m 29 7,.s 100001 10 4 27,.m 5 28,.m 6 29]
 .ret)))
 (.seq (.block 0 (.q [.f 31 3 0,.l 32 31,.B 33 .eql 32 1,.m 30 33]
 (.cond 30 (.seq (.draw [.L 34 10 2,.c 35 22 [34],.L 36 10 2,.L 37 8 3,.c 38 23 [36,37],.m 39 7,.s 100002 10 4 35,.m 5 38,.m 6 39] [[],[0],[],[],[2,3,1],[],[1,4,0,1],[4,6,0,1,2,3,4,6],[5,7,0,1,2,3,4,5,6,7]])
 .ret) (.q [.f 41 3 0,.l 42 41,.B 43 .eql 42 3,.m 44 43,.z 44 (.f 45 3 0),.z 44 (.l 46 45),.z 44 (.B 47 .eql 46 4),.r 48 44 47,.m 40 48]
 (.cond 40 (.q [.L 49 10 2,.L 50 8 3,.c 51 24 [49,50],.e 52 51 0,.e 53 51 1,.e 54 51 2,.s 100003 10 4 52,.m 5 53,.m 6 54]
 .ret) (.q [.f 56 3 0,.l 57 56,.B 58 .eql 57 6,.m 59 58,.y 59 (.f 60 3 1),.y 59 (.l 61 60),.y 59 (.B 62 .eql 61 0),.a 63 59 62,.m 55 63]
 (.cond 55 (.q [.L 65 10 2,.L 66 8 3,.c 67 25 [65,66],.m 64 67,.e 68 64 0,.e 69 64 1,.op 8 (.alloc [.nils 1,.nils 2,.i 0,.F,.nils 7,.i 0,.nils 3,.i 0,.i 0,.i 0]),.s 100004 10 8 68,.m 9 69]
 (.q [.L 70 10 8,.m 71 9,.m 72 7,.s 100005 10 4 70,.m 5 71,.m 6 72]
 .ret)) (.q [.f 74 3 0,.l 75 74,.B 76 .eql 75 8,.m 77 76,.y 77 (.f 78 3 1),.y 77 (.l 79 78),.y 77 (.B 80 .eql 79 0),.a 81 77 80,.m 73 81]
 (.c 73 (.q [.L 83 10 2,.L 84 8 3,.c 85 26 [83,84],.m 82 85,.e 86 82 0,.e 87 82 1,.op 10 (.alloc [.nils 1,.nils 2,.i 0,.F,.nils 7,.i 0,.nils 3,.i 0,.i 0,.i 0]),.s 100006 10 10 86,.m 11 87]
 (.q [.L 88 10 10,.m 89 11,.m 90 7,.s 100007 10 4 88,.m 5 89,.m 6 90]
 .ret)))))))))))
 (.q [.L 91 10 2,.c 92 22 [91],.op 93 (.bslice 8 []),.m 94 7,.s 100008 10 4 92,.m 5 93,.m 6 94]
 .ret))))⟩
theorem r_s_Desk {Te:TE} (c_s_MsgOk:C_s_MsgOk Te) (c_s_l15Up:C_s_l15Up Te) (c_s_l15Copy:C_s_l15Copy Te) (c_s_l18Get:C_s_l18Get Te) (c_s_l18Put:C_s_l18Put Te) (c_s_l18Phase:C_s_l18Phase Te) (c_s_l18Step:C_s_l18Step Te):C_s_Desk (RF Te x_s_Desk):=by
 intro n m hn hm
 have hL:=hn.len (by decide)
 have hc:=c_s_l15Copy n hL
 refine X0 x_s_Desk.eq_1 ?_
 refine C0 (c_s_MsgOk m) ?_
 cases g0:m.ok
 ·have e:n.desk m=(n,[],[]):=by rw [NodeV.desk,g0]; rfl
  refine G0 ?_
  exact D1 (hc) e
 have ht:win m.To 3 4 = !decide (m.To < 3):=by
  simp only [Msg.ok,win,Bool.and_eq_true,decide_eq_true_eq] at g0
  by_cases g:m.To < 3
  ·rw [decide_eq_true g]
   simp only [win,Bool.and_eq_false_iff,decide_eq_false_iff_not,Bool.not_true]
   omega
  ·rw [decide_eq_false g]
   simp only [win,Bool.and_eq_true,decide_eq_true_eq,Bool.not_false]
   omega
 cases gt:decide (m.To < 3)
 rotate_left
 ·have e:n.desk m=(n,[],[]):=by rw [NodeV.desk,g0,ht,gt]; rfl
  refine G1 gt ?_
  exact D1 (hc) e
 refine G1 gt ?_
 refine C0 (c_s_l15Up n (hn.mono (by decide))) ?_
 cases gu:n.up
 ·have e:n.desk m=(n,[],[]):=by rw [NodeV.desk,g0,ht,gt,gu]; rfl
  refine G0 ?_
  exact D1 (hc) e
 have g:(m.ok&&win m.To 3 4&&n.up)=true:=by rw [g0,ht,gt,gu]; rfl
 refine G0 ?_
 cases k1:(m.Kind==1)
 rotate_left
 ·have e:n.desk m=(n,[⟨2,m.To,m.From,m.Seq,⟨#[]⟩,(n.get m.Key).1,0,(n.get m.Key).2⟩],[]):=by rw [NodeV.desk,g,k1]; rfl
  refine G1 k1 ?_
  refine C0 (hc) ?_
  exact D1 (c_s_l18Get n m hn) e
 cases k3:(m.Kind==3)
 rotate_left
 ·have e:n.desk m=n.deskPut m (back m 0):=by rw [NodeV.desk,g,k1,k3]; rfl
  refine G2 k1 k3 ?_
  exact D1 (c_s_l18Put n m hn hm g0 (.inl (eq_of_beq k3))) e
 cases k4:(m.Kind==4)
 rotate_left
 ·have e:n.desk m=n.deskPut m (back m 0):=by rw [NodeV.desk,g,k1,k3,k4]; rfl
  refine G3 k1 k3 k4 ?_
  exact D1 (c_s_l18Put n m hn hm g0 (.inr (eq_of_beq k4))) e
 cases f0:(m.From==0)
 ·have e:n.desk m=(n,[],[]):=by rw [NodeV.desk,g,k1,k3,k4,f0]; rfl
  cases k6:(m.Kind==6) <;> cases k8:(m.Kind==8)
  all_goals
   try simp -implicitDefEqProofs (maxSteps:=1000000) only [go_sem,k1,k3,k4,k6,k8,f0]
   repeat refine ⟨sc,?_⟩
   try exact sf
   refine .of (hc) ?_
   try simp -implicitDefEqProofs (maxSteps:=1000000) only [go_sem,e,take_all,take_marks]
   repeat refine ⟨sc,?_⟩
   try exact sf
   try rfl
 cases k6:(m.Kind==6)
 rotate_left
 ·have e:n.desk m=((n.deskPhase m).1,(n.deskPhase m).2,[]):=by rw [NodeV.desk,g,k1,k3,k4,f0,k6]; rfl
  try simp -implicitDefEqProofs (maxSteps:=1000000) only [go_sem,k1,k3,k4,k6,f0]
  repeat refine ⟨sc,?_⟩
  try exact sf
  exact D1 (c_s_l18Phase n m hn) e
 cases k8:(m.Kind==8)
 ·have e:n.desk m=(n,[],[]):=by rw [NodeV.desk,g,k1,k3,k4,f0,k6,k8]; rfl
  try simp -implicitDefEqProofs (maxSteps:=1000000) only [go_sem,k1,k3,k4,k6,k8,f0]
  repeat refine ⟨sc,?_⟩
  try exact sf
  exact D1 (hc) e
 cases kN:(m.N==n.S.T.Phase)
 ·have e:n.desk m=(n,[],[]):=by rw [NodeV.desk,g,k1,k3,k4,f0,k6,k8,kN]; rfl
  have e2:n.deskStep0 m=(n,[]):=by rw [NodeV.deskStep0,kN]; rfl
  try simp -implicitDefEqProofs (maxSteps:=1000000) only [go_sem,k1,k3,k4,k6,k8,f0]
  repeat refine ⟨sc,?_⟩
  try exact sf
  exact D2 (c_s_l18Step n m hn) e e2
 ·have e:n.desk m=((n.deskStep m).1,(n.deskStep m).2,[]):=by rw [NodeV.desk,g,k1,k3,k4,f0,k6,k8,kN]; rfl
  have e2:n.deskStep0 m=n.deskStep m:=by rw [NodeV.deskStep0,kN]; rfl
  try simp -implicitDefEqProofs (maxSteps:=1000000) only [go_sem,k1,k3,k4,k6,k8,f0]
  repeat refine ⟨sc,?_⟩
  try exact sf
  exact D2 (c_s_l18Step n m hn) e e2
def x_i_PutRec:FnX:=⟨68,[.tmp 6],
  .q [.v 5 2,.op 6 (.mv (.k (.one (.nils 1))))]
 (.seq (.q [.L 8 13 5,.c 9 200 [8],.N 10 9,.m 11 10,.z 11 (.m 12 0),.z 11 (.c 13 100 [12]),.z 11 (.N 14 13),.r 15 11 14,.m 16 15,.z 16 (.m 17 1),.z 16 (.c 18 100 [17]),.z 16 (.N 19 18),.r 20 16 19]
 (.c 20 (.q [.op 6 (.mv (.k (.one (.nils 1))))]
 .ret)))
 (.seq (.draw [.m 21 0,.op 22 (.call 208 [0,0] [(.k (.one (.nils 1))),(.t 21)]),.m 23 1,.c 24 208 [22,23],.f 25 5 0,.l 26 25,.op 27 (.conv (.int .u8) (.t 26)),.op 28 (.bslice 1 [(.t 27)]),.op 29 (.app 1 1 (.t 24) (.t 28)),.m 7 29] [[],[0],[],[1,2,1],[],[4],[5],[6],[3,7,3],[8,8,0,1,2,3,4,5,6,7,8]])
 (.seq (.q [.f 30 5 0,.l 31 30]
 (.block 0 (.q [.B 33 .eql 31 1,.m 32 33]
 (.cond 32 (.reg [.m 34 7,.f 35 5 1,.L 36 7 35,.c 37 209 [34,36],.m 7 37]) (.q [.B 39 .eql 31 2,.m 38 39]
 (.cond 38 (.reg [.m 40 7,.f 41 5 8,.l 42 41,.c 43 210 [40,42],.m 7 43]) (.q [.B 45 .eql 31 3,.m 44 45]
 (.c 44 (.reg [.m 46 7,.f 47 5 9,.l 48 47,.op 49 (.conv (.int .u8) (.t 48)),.op 50 (.bslice 1 [(.t 49)]),.op 51 (.app 1 1 (.t 46) (.t 50)),.m 7 51])))))))))
 (.seq (.draw [.m 52 7,.f 53 5 10,.l 54 53,.op 55 (.conv (.int .u8) (.t 54)),.f 56 5 12,.l 57 56,.op 58 (.conv (.int .u8) (.t 57)),.op 59 (.bslice 1 [(.t 55),(.t 58)]),.op 60 (.app 1 1 (.t 52) (.t 59)),.f 61 5 11,.l 62 61,.c 63 208 [60,62],.m 7 63] [[],[],[1],[2],[],[4],[5],[3,6],[0,7],[],[9],[8,10,8],[11,11,0,1,2,3,4,5,6,7,8,9,10,11]])
 (.q [.m 64 7,.m 65 7,.c 66 211 [65],.c 67 208 [64,66],.m 6 67]
 .ret)))))⟩
theorem r_i_PutRec {Te:TE} (c_i_RecOk:C_i_RecOk Te) (c_i_isWord:C_i_isWord Te) (c_i_PutW:C_i_PutW Te) (c_i_PutRow:C_i_PutRow Te) (c_i_PutText:C_i_PutText Te) (c_i_Sum:C_i_Sum Te):C_i_PutRec (RF Te x_i_PutRec):=by
 intro gen place r h
 have h1:=h.1
 have h2:=h.2
 refine X0 x_i_PutRec.eq_1 ?_
 refine C0 (c_i_RecOk r h) ?_
 cases g1:r.ok
 ·have e:=recNo1 (gen:=gen) (place:=place) g1
  exact F1 e
 refine G0 ?_
 refine C0 (c_i_isWord _) ?_
 cases g2:win gen 0 65535
 ·have e:=recNo2 (place:=place) (r:=r) g2
  exact F1 e
 refine G0 ?_
 refine C0 (c_i_isWord _) ?_
 cases g3:win place 0 65535
 ·have e:=recNo3 (gen:=gen) (r:=r) g3
  exact F1 e
 refine G0 ?_
 have ey:=recYes g1 g2 g3
 have lw:(putW (putW [] gen) place).length=4:=by rw [putW_len,putW_len]; rfl
 have t1:=c_i_PutW [] gen (by show 0≤2 ^ 30; decide)
 refine C0 (t1) ?_
 refine .of (c_i_PutW (putW [] gen) place (by rw [putW_len]; show 0 + 2≤2 ^ 30; decide)) ?_
 try simp -implicitDefEqProofs (maxSteps:=1000000) only [go_sem,mkU_wrap,app1B,take1B]
 repeat refine ⟨sc,?_⟩
 try exact sf
 have e1:putW (putW [] gen) place++[mkU r.Kind]=recHead gen place r:=rfl
 have e2:(putW (putW [] gen) place).length + 1=(recHead gen place r).length:=by rw [recHead,List.length_append]; rfl
 simp only [e1,e2]
 have l0:=recHead_len gen place r
 generalize eH:recHead gen place r=H at l0 ⊢
 by_cases q1:r.Kind=1
 ·have k1:(r.Kind==1)=true:=by rw [q1]; rfl
  refine G1 k1 ?_
  refine C0 (c_i_PutRow H r.R (by omega) h1) ?_
  have e3:putRow H r.R=recKind H r:=(if_pos q1).symm
  have l3:=recKind_len H r
  try simp -implicitDefEqProofs (maxSteps:=1000000) only [go_sem,e3,mkU_wrap,app2B,take2B]
  repeat refine ⟨sc,?_⟩
  try exact sf
  have tt:=c_i_PutW (recKind H r++[mkU r.Who,mkU r.Code]) r.Seq (by rw [List.length_append]; simp only [List.length_cons,List.length_nil]; omega)
  have e4:putW (recKind H r++[mkU r.Who,mkU r.Code]) r.Seq=recBody gen place r:=by rw [recBody,eH]
  rw [e4] at tt
  refine C0 (tt) ?_
  have l4:=recBody_len gen place r
  refine C0 (c_i_Sum (recBody gen place r) (by omega)) ?_
  refine .of (c_i_PutW (recBody gen place r) _ (by omega)) ?_
  try simp -implicitDefEqProofs (maxSteps:=1000000) only [go_sem,ey]
  repeat refine ⟨sc,?_⟩
  try exact sf
 by_cases q2:r.Kind=2
 ·have k1:(r.Kind==1)=false:=by rw [q2]; rfl
  have k2:(r.Kind==2)=true:=by rw [q2]; rfl
  refine G2 k1 k2 ?_
  refine C0 (c_i_PutText H r.Key (by omega) h2) ?_
  have e3:putText H r.Key=recKind H r:=by rw [recKind,if_neg q1,if_pos q2]
  have l3:=recKind_len H r
  try simp -implicitDefEqProofs (maxSteps:=1000000) only [go_sem,e3,mkU_wrap,app2B,take2B]
  repeat refine ⟨sc,?_⟩
  try exact sf
  have tt:=c_i_PutW (recKind H r++[mkU r.Who,mkU r.Code]) r.Seq (by rw [List.length_append]; simp only [List.length_cons,List.length_nil]; omega)
  have e4:putW (recKind H r++[mkU r.Who,mkU r.Code]) r.Seq=recBody gen place r:=by rw [recBody,eH]
  rw [e4] at tt
  refine C0 (tt) ?_
  have l4:=recBody_len gen place r
  refine C0 (c_i_Sum (recBody gen place r) (by omega)) ?_
  refine .of (c_i_PutW (recBody gen place r) _ (by omega)) ?_
  try simp -implicitDefEqProofs (maxSteps:=1000000) only [go_sem,ey]
  repeat refine ⟨sc,?_⟩
  try exact sf
 by_cases q3:r.Kind=3
 ·have k1:(r.Kind==1)=false:=by rw [q3]; rfl
  have k2:(r.Kind==2)=false:=by rw [q3]; rfl
  have k3:(r.Kind==3)=true:=by rw [q3]; rfl
  have e3:H++[mkU r.N]=recKind H r:=by rw [recKind,if_neg q1,if_neg q2,if_pos q3]
  have e5:H.length + 1=(recKind H r).length:=by rw [← e3,List.length_append]; rfl
  have l3:=recKind_len H r
  try simp -implicitDefEqProofs (maxSteps:=1000000) only [go_sem,k1,k2,k3,mkU_wrap,app1B,e3,e5,take_rows]
  repeat refine ⟨sc,?_⟩
  try exact sf
  try simp -implicitDefEqProofs (maxSteps:=1000000) only [go_sem,e3,mkU_wrap,app2B,take2B]
  repeat refine ⟨sc,?_⟩
  try exact sf
  have tt:=c_i_PutW (recKind H r++[mkU r.Who,mkU r.Code]) r.Seq (by rw [List.length_append]; simp only [List.length_cons,List.length_nil]; omega)
  have e4:putW (recKind H r++[mkU r.Who,mkU r.Code]) r.Seq=recBody gen place r:=by rw [recBody,eH]
  rw [e4] at tt
  refine C0 (tt) ?_
  have l4:=recBody_len gen place r
  refine C0 (c_i_Sum (recBody gen place r) (by omega)) ?_
  refine .of (c_i_PutW (recBody gen place r) _ (by omega)) ?_
  try simp -implicitDefEqProofs (maxSteps:=1000000) only [go_sem,ey]
  repeat refine ⟨sc,?_⟩
  try exact sf
 obtain ⟨k1,k2,k3⟩:=other3 q1 q2 q3
 refine G3 k1 k2 k3 ?_
 have e3:recKind H r=H:=by rw [recKind,if_neg q1,if_neg q2,if_neg q3]
 try simp -implicitDefEqProofs (maxSteps:=1000000) only [go_sem,mkU_wrap,app2B,take2B]
 repeat refine ⟨sc,?_⟩
 try exact sf
 have tt:=c_i_PutW (H++[mkU r.Who,mkU r.Code]) r.Seq (by rw [List.length_append]; simp only [List.length_cons,List.length_nil]; omega)
 have e4:putW (H++[mkU r.Who,mkU r.Code]) r.Seq=recBody gen place r:=by rw [recBody,eH,e3]
 rw [e4] at tt
 refine C0 (tt) ?_
 have l4:=recBody_len gen place r
 refine C0 (c_i_Sum (recBody gen place r) (by omega)) ?_
 refine .of (c_i_PutW (recBody gen place r) _ (by omega)) ?_
 try simp -implicitDefEqProofs (maxSteps:=1000000) only [go_sem,ey]
 repeat refine ⟨sc,?_⟩
 try exact sf
def x_i_StoreOk:FnX:=⟨40,[.tmp 2],
  .q [.v 1 0,.F 2]
 (.q [.f 3 1 0,.L 4 4 3,.c 5 194 [4],.m 6 5,.y 6 (.f 7 1 0),.y 6 (.f 8 7 0),.y 6 (.l 9 8),.y 6 (.n 10 9),.y 6 (.B 11 .eql 10 62),.a 12 6 11,.m 13 12,.y 13 (.f 14 1 0),.y 13 (.f 15 14 1),.y 13 (.l 16 15),.y 13 (.n 17 16),.y 13 (.B 18 .eql 17 0),.y 13 (.m 19 18),.z 19 (.f 20 1 0),.z 19 (.f 21 20 3),.z 19 (.l 22 21),.y 13 (.r 23 19 22),.a 24 13 23,.m 25 24,.y 25 (.f 26 1 4),.y 25 (.L 27 3 26),.y 25 (.c 28 195 [27]),.a 29 25 28,.m 30 29,.y 30 (.f 31 1 7),.y 30 (.l 32 31),.y 30 (.op 33 (.call 57 [0,0,0] [(.t 32),(.i 1),(.i 60000)])),.a 34 30 33,.m 35 34,.y 35 (.f 36 1 8),.y 35 (.l 37 36),.y 35 (.op 38 (.call 57 [0,0,0] [(.t 37),(.i 0),(.i 30)])),.a 39 35 38,.m 2 39]
 .ret)⟩
theorem r_i_StoreOk {Te:TE} (c_i_DevOk:C_i_DevOk Te) (c_i_TabOk:C_i_TabOk Te) (c_i_within:C_i_within Te):C_i_StoreOk (RF Te x_i_StoreOk):=by
 intro s h
 obtain ⟨hD,hT⟩:=h
 obtain ⟨⟨secs,cache,fuse,down⟩,T,gen,place⟩:=s
 cases down
 ·skip
  refine X0 x_i_StoreOk.eq_1 ?_
  refine C0 (c_i_DevOk ⟨secs,cache,fuse,false⟩ hD) ?_
  cases g1:DevV.ok ⟨secs,cache,fuse,false⟩
  ·have e:(StoreV.mk ⟨secs,cache,fuse,false⟩ T gen place).ok=false:=by simp only [StoreV.ok,g1,Bool.false_and]
   exact F1 e
  cases g2:((secs.length:Int)==62)
  ·have e:(StoreV.mk ⟨secs,cache,fuse,false⟩ T gen place).ok=false:=by simp only [StoreV.ok,g2,Bool.and_false,Bool.false_and]
   exact F2 g2 e
  cases g0:((cache.length:Int)==0)
  ·have e:(StoreV.mk ⟨secs,cache,fuse,false⟩ T gen place).ok=false:=by simp only [StoreV.ok,g0,Bool.or_self,Bool.and_false,Bool.false_and]
   exact F3 g2 g0 e
  refine G2 g2 g0 ?_
  refine C0 (c_i_TabOk T hT) ?_
  cases g4:T.ok
  ·have e:(StoreV.mk ⟨secs,cache,fuse,false⟩ T gen place).ok=false:=by simp only [StoreV.ok,g4,Bool.and_false,Bool.false_and]
   exact F1 e
  refine G0 ?_
  refine C0 (c_i_within _ _ _) ?_
  cases g5:win gen 1 60000
  ·have e:(StoreV.mk ⟨secs,cache,fuse,false⟩ T gen place).ok=false:=by simp only [StoreV.ok,g5,Bool.and_false,Bool.false_and]
   exact F1 e
  refine G0 ?_
  have e:(StoreV.mk ⟨secs,cache,fuse,false⟩ T gen place).ok=win place 0 30:=by simp only [StoreV.ok,g1,g2,g0,g4,g5,Bool.and_true,Bool.true_and,Bool.or_true,Bool.true_or]
  exact D1 (c_i_within _ _ _) e
 ·skip
  refine X0 x_i_StoreOk.eq_1 ?_
  refine C0 (c_i_DevOk ⟨secs,cache,fuse,true⟩ hD) ?_
  cases g1:DevV.ok ⟨secs,cache,fuse,true⟩
  ·have e:(StoreV.mk ⟨secs,cache,fuse,true⟩ T gen place).ok=false:=by simp only [StoreV.ok,g1,Bool.false_and]
   exact F1 e
  cases g2:((secs.length:Int)==62)
  ·have e:(StoreV.mk ⟨secs,cache,fuse,true⟩ T gen place).ok=false:=by simp only [StoreV.ok,g2,Bool.and_false,Bool.false_and]
   exact F2 g2 e
  cases g0:((cache.length:Int)==0)
  ·refine G2 g2 g0 ?_
   refine C0 (c_i_TabOk T hT) ?_
   cases g4:T.ok
   ·have e:(StoreV.mk ⟨secs,cache,fuse,true⟩ T gen place).ok=false:=by simp only [StoreV.ok,g4,Bool.and_false,Bool.false_and]
    exact F1 e
   refine G0 ?_
   refine C0 (c_i_within _ _ _) ?_
   cases g5:win gen 1 60000
   ·have e:(StoreV.mk ⟨secs,cache,fuse,true⟩ T gen place).ok=false:=by simp only [StoreV.ok,g5,Bool.and_false,Bool.false_and]
    exact F1 e
   refine G0 ?_
   have e:(StoreV.mk ⟨secs,cache,fuse,true⟩ T gen place).ok=win place 0 30:=by simp only [StoreV.ok,g1,g2,g0,g4,g5,Bool.and_true,Bool.true_and,Bool.or_true,Bool.true_or]
   exact D1 (c_i_within _ _ _) e
  ·refine G2 g2 g0 ?_
   refine C0 (c_i_TabOk T hT) ?_
   cases g4:T.ok
   ·have e:(StoreV.mk ⟨secs,cache,fuse,true⟩ T gen place).ok=false:=by simp only [StoreV.ok,g4,Bool.and_false,Bool.false_and]
    exact F1 e
   refine G0 ?_
   refine C0 (c_i_within _ _ _) ?_
   cases g5:win gen 1 60000
   ·have e:(StoreV.mk ⟨secs,cache,fuse,true⟩ T gen place).ok=false:=by simp only [StoreV.ok,g5,Bool.and_false,Bool.false_and]
    exact F1 e
   refine G0 ?_
   have e:(StoreV.mk ⟨secs,cache,fuse,true⟩ T gen place).ok=win place 0 30:=by simp only [StoreV.ok,g1,g2,g0,g4,g5,Bool.and_true,Bool.true_and,Bool.or_true,Bool.true_or]
   exact D1 (c_i_within _ _ _) e
def x_s_StoreOk:FnX:=⟨40,[.tmp 2],
  .q [.v 1 0,.F 2]
 (.q [.f 3 1 0,.L 4 4 3,.c 5 129 [4],.m 6 5,.y 6 (.f 7 1 0),.y 6 (.f 8 7 0),.y 6 (.l 9 8),.y 6 (.n 10 9),.y 6 (.B 11 .eql 10 62),.a 12 6 11,.m 13 12,.y 13 (.f 14 1 0),.y 13 (.f 15 14 3),.y 13 (.l 16 15),.y 13 (.m 17 16),.z 17 (.f 18 1 0),.z 17 (.f 19 18 1),.z 17 (.l 20 19),.z 17 (.n 21 20),.z 17 (.B 22 .eql 21 0),.y 13 (.r 23 17 22),.a 24 13 23,.m 25 24,.y 25 (.f 26 1 4),.y 25 (.L 27 3 26),.y 25 (.c 28 130 [27]),.a 29 25 28,.m 30 29,.y 30 (.f 31 1 7),.y 30 (.l 32 31),.y 30 (.op 33 (.call 42 [0,0,0] [(.t 32),(.i 1),(.i 60000)])),.a 34 30 33,.m 35 34,.y 35 (.f 36 1 8),.y 35 (.l 37 36),.y 35 (.op 38 (.call 42 [0,0,0] [(.t 37),(.i 0),(.i 30)])),.a 39 35 38,.m 2 39]
 .ret)⟩
theorem r_s_StoreOk {Te:TE} (c_s_DevOk:C_s_DevOk Te) (c_s_TabOk:C_s_TabOk Te) (c_s_l1In:C_s_l1In Te):C_s_StoreOk (RF Te x_s_StoreOk):=by
 intro s h
 obtain ⟨hD,hT⟩:=h
 obtain ⟨⟨secs,cache,fuse,down⟩,T,gen,place⟩:=s
 cases down
 ·skip
  refine X0 x_s_StoreOk.eq_1 ?_
  refine C0 (c_s_DevOk ⟨secs,cache,fuse,false⟩ hD) ?_
  cases g1:DevV.ok ⟨secs,cache,fuse,false⟩
  ·have e:(StoreV.mk ⟨secs,cache,fuse,false⟩ T gen place).ok=false:=by simp only [StoreV.ok,g1,Bool.false_and]
   exact F1 e
  cases g2:((secs.length:Int)==62)
  ·have e:(StoreV.mk ⟨secs,cache,fuse,false⟩ T gen place).ok=false:=by simp only [StoreV.ok,g2,Bool.and_false,Bool.false_and]
   exact F2 g2 e
  cases g0:((cache.length:Int)==0)
  ·have e:(StoreV.mk ⟨secs,cache,fuse,false⟩ T gen place).ok=false:=by simp only [StoreV.ok,g0,Bool.or_self,Bool.and_false,Bool.false_and]
   exact F3 g2 g0 e
  refine G2 g2 g0 ?_
  refine C0 (c_s_TabOk T hT) ?_
  cases g4:T.ok
  ·have e:(StoreV.mk ⟨secs,cache,fuse,false⟩ T gen place).ok=false:=by simp only [StoreV.ok,g4,Bool.and_false,Bool.false_and]
   exact F1 e
  refine G0 ?_
  refine C0 (c_s_l1In _ _ _) ?_
  cases g5:win gen 1 60000
  ·have e:(StoreV.mk ⟨secs,cache,fuse,false⟩ T gen place).ok=false:=by simp only [StoreV.ok,g5,Bool.and_false,Bool.false_and]
   exact F1 e
  refine G0 ?_
  have e:(StoreV.mk ⟨secs,cache,fuse,false⟩ T gen place).ok=win place 0 30:=by simp only [StoreV.ok,g1,g2,g0,g4,g5,Bool.and_true,Bool.true_and,Bool.or_true,Bool.true_or]
  exact D1 (c_s_l1In _ _ _) e
 ·skip
  refine X0 x_s_StoreOk.eq_1 ?_
  refine C0 (c_s_DevOk ⟨secs,cache,fuse,true⟩ hD) ?_
  cases g1:DevV.ok ⟨secs,cache,fuse,true⟩
  ·have e:(StoreV.mk ⟨secs,cache,fuse,true⟩ T gen place).ok=false:=by simp only [StoreV.ok,g1,Bool.false_and]
   exact F1 e
  cases g2:((secs.length:Int)==62)
  ·have e:(StoreV.mk ⟨secs,cache,fuse,true⟩ T gen place).ok=false:=by simp only [StoreV.ok,g2,Bool.and_false,Bool.false_and]
   exact F2 g2 e
  refine G1 g2 ?_
  refine C0 (c_s_TabOk T hT) ?_
  cases g4:T.ok
  ·have e:(StoreV.mk ⟨secs,cache,fuse,true⟩ T gen place).ok=false:=by simp only [StoreV.ok,g4,Bool.and_false,Bool.false_and]
   exact F1 e
  refine G0 ?_
  refine C0 (c_s_l1In _ _ _) ?_
  cases g5:win gen 1 60000
  ·have e:(StoreV.mk ⟨secs,cache,fuse,true⟩ T gen place).ok=false:=by simp only [StoreV.ok,g5,Bool.and_false,Bool.false_and]
   exact F1 e
  refine G0 ?_
  have e:(StoreV.mk ⟨secs,cache,fuse,true⟩ T gen place).ok=win place 0 30:=by simp only [StoreV.ok,g1,g2,g4,g5,Bool.and_true,Bool.true_and,Bool.or_true,Bool.true_or]
  exact D1 (c_s_l1In _ _ _) e
def x_i_NodeOk:FnX:=⟨11,[.tmp 2],
  .q [.v 1 0,.F 2]
 (.q [.f 3 1 0,.L 4 9 3,.c 5 154 [4],.m 6 5,.y 6 (.f 7 1 9),.y 6 (.l 8 7),.y 6 (.op 9 (.call 57 [0,0,0] [(.t 8),(.i 1),(.i 5)])),.a 10 6 9,.m 2 10]
 .ret)⟩
theorem r_i_NodeOk {Te:TE} (c_i_StoreOk:C_i_StoreOk Te) (c_i_within:C_i_within Te):C_i_NodeOk (RF Te x_i_NodeOk):=by
 intro n h
 refine run0 ?_
 simp -implicitDefEqProofs (maxSteps:=1000000) only [x_i_NodeOk,go_sem,NodeV.ok]
 repeat refine ⟨sc,?_⟩
 try exact sf
 refine C0 (c_i_StoreOk n.S h) ?_
 cases g1:n.S.ok
 ·exact F0
 ·refine G0 ?_
  exact D0 (c_i_within _ _ _)
def x_i_Lay:FnX:=⟨44,[.cell 2 (some 9)],
  .q [.v 1 0,.op 2 (.alloc [.nils 1,.nils 2,.i 0,.F,.nils 7,.i 0,.nils 3,.i 0,.i 0])]
 (.q [.L 5 9 1,.c 6 55 [5],.op 3 (.alloc [.nils 1,.nils 2,.i 0,.F,.nils 7,.i 0,.nils 3,.i 0,.i 0]),.s 100001 9 3 6]
 (.seq (.q [.L 7 9 1,.c 8 154 [7],.N 9 8,.m 10 9,.z 10 (.f 11 1 0),.z 10 (.f 12 11 3),.z 10 (.l 13 12),.r 14 10 13,.m 15 14,.z 15 (.f 16 1 7),.z 15 (.l 17 16),.z 15 (.B 18 .eql 17 60000),.r 19 15 18]
 (.c 19 (.q [.L 20 9 3,.s 100002 9 2 20]
 .ret)))
 (.q [.f 21 1 4,.L 22 3 21,.c 23 205 [22],.m 4 23]
 (.q [.f 24 1 0,.L 25 4 24,.f 26 1 7,.l 27 26,.B 28 .add 27 1,.m 29 4,.c 30 206 [25,28,29],.f 31 3 0,.s 100003 4 31 30]
 (.seq (.q [.f 32 3 0,.f 33 32 3,.l 34 33,.N 35 34]
 (.c 35 (.reg [.f 36 1 7,.l 37 36,.B 38 .add 37 1,.m 39 4,.n 40 39,.f 41 3 7,.s 100004 1 41 38,.f 42 3 8,.s 100005 1 42 40])))
 (.q [.L 43 9 3,.s 100006 9 2 43]
 .ret))))))⟩
theorem r_i_Lay {Te:TE} (c_i_copyStore:C_i_copyStore Te) (c_i_StoreOk:C_i_StoreOk Te) (c_i_RecsOf:C_i_RecsOf Te) (c_i_laid:C_i_laid Te):C_i_Lay (RF Te x_i_Lay):=by
 intro s h
 have hL:=h.len (by decide)
 have hLT:=h.2.len (by decide)
 obtain ⟨hr1,hr2⟩:=recsOf_le h.2
 refine X0 x_i_Lay.eq_1 ?_
 refine C0 (c_i_copyStore s hL) ?_
 refine C0 (c_i_StoreOk s (h.mono (by decide))) ?_
 cases g1:s.ok
 ·have e:s.relay=s:=by rw [StoreV.relay,g1]; rfl
  try simp -implicitDefEqProofs (maxSteps:=1000000) only [go_sem,e,take_all,take_marks,StoreV.enc]
  repeat refine ⟨sc,?_⟩
  try exact sf
  try rfl
 obtain ⟨hk,_,_,_,hg,_⟩:=(StoreV.ok_iff s).1 g1
 cases g2:s.D.Down
 rotate_left
 ·have e:s.relay=s:=by rw [StoreV.relay,g1,g2]; rfl
  try simp -implicitDefEqProofs (maxSteps:=1000000) only [go_sem,g2,e,take_all,take_marks,StoreV.enc]
  repeat refine ⟨sc,?_⟩
  try exact sf
  try rfl
 cases g3:(s.Gen==60000)
 rotate_left
 ·have e:s.relay=s:=by rw [StoreV.relay,g1,g2,g3]; rfl
  try simp -implicitDefEqProofs (maxSteps:=1000000) only [go_sem,g2,g3,e,take_all,take_marks,StoreV.enc]
  repeat refine ⟨sc,?_⟩
  try exact sf
  try rfl
 have e:s.relay=s.lay (s.Gen + 1):=by rw [StoreV.relay,g1,g2,g3]; rfl
 have ew:IntKind.i64.wrap (s.Gen + 1)=s.Gen + 1:=IntWalk.i64_in _ (by omega)
 refine G2 g2 g3 ?_
 refine C0 (c_i_RecsOf s.T hLT) ?_
 have tl:=c_i_laid s.D (s.Gen + 1) (recsOf s.T) hk ⟨hr1,hr2⟩
 simp only [DevV.enc,g2] at tl
 refine G1 ew ?_
 refine C0 (tl) ?_
 cases g4:(layDev (s.Gen + 1) (recsOf s.T) s.D).Down
 ·have e2:=lay_up (s:=s) (gen:=s.Gen + 1) g4
  try simp -implicitDefEqProofs (maxSteps:=1000000) only [go_sem,g4,e,e2,ew,take_all,take_marks,StoreV.enc]
  repeat refine ⟨sc,?_⟩
  try exact sf
  try rfl
 ·have e2:=lay_down (s:=s) (gen:=s.Gen + 1) g4
  try simp -implicitDefEqProofs (maxSteps:=1000000) only [go_sem,g4,e,e2,ew,g2,take_all,take_marks,StoreV.enc]
  repeat refine ⟨sc,?_⟩
  try exact sf
  try rfl
def x_l_szRowS:FnX:=⟨27,[.tmp 4],
  .q [.i 4 0]
 (.q [.m 6 1,.m 7 0,.n 8 7,.b 9 .sub 6 8,.m 1 9]
 (.seq (.q [.m 10 1,.B 11 .lss 10 0]
 (.c 11 (.q [.i 4 (-1)]
 .ret)))
 (.seq (.q [.i 5 0]
 (.block 0 (.loop [0,1,5] (.seq (.q [.m 12 5,.m 13 0,.n 14 13,.b 15 .lss 12 14]
 (.cond 15 .skip (.exit 0)))
 (.seq (.block 1 (.q [.m 18 0,.m 19 5,.x 20 7 18 19,.L 21 7 20,.m 22 1,.c 23 128 [21,22],.m 1 23]
 (.q [.m 24 1,.B 25 .lss 24 0]
 (.c 25 (.q [.i 4 (-1)]
 .ret)))))
 (.reg [.m 16 5,.B 17 .add 16 1,.m 5 17]))))))
 (.norm [1] (.q [.m 26 1,.m 4 26]
 .ret)))))⟩
theorem r_l_szRowS {Te:TE} (c_l_szRow:C_l_szRow Te):C_l_szRowS (RF Te x_l_szRowS):=by
 intro l k hk hl hs
 refine run0 ?_
 simp -implicitDefEqProofs (maxSteps:=1000000) (disch:=omega) only [x_l_szRowS,go_sem,IntWalk.i64_in]
 refine ⟨fun h=>?_,fun h=>?_⟩
 ·simp only [decide_eq_true_eq] at h
  simp only [szSl,szAll,if_pos h]
 ·simp only [decide_eq_false_iff_not] at h
  refine loop_of (σ:=Nat×Int) (fun x=>⟨[(0,.one (.ro 7 (l.map (RowV.enc false)))),(1,.one (.pv (.int .i64 x.2))),(5,.one (.pv (.int .i64 x.1)))],[],[(0,[slT false 7 (RowV.enc false) l]),(1,[iT k])]⟩) (fun x=>x.1≤l.length∧0≤x.2∧x.2≤k∧szSl szRow l k=szAll ((l.drop x.1).map szRow) x.2) (fun x=>l.length - x.1) (0,k - l.length) ?_ ⟨Nat.zero_le _,by omega,by omega,by simp only [szSl,szAll,if_neg h,List.drop_zero]⟩ ?_
  ·simp -implicitDefEqProofs (maxSteps:=1000000) only [go_sem]; rfl
  ·rintro ⟨i,c⟩ ⟨hi,h0,h1,he⟩
   simp only at hi h0 h1 he
   simp -implicitDefEqProofs (maxSteps:=1000000) only [go_sem]
   refine ⟨fun h=>?_,fun h=>?_⟩
   ·have hi':i < l.length:=by simp only [decide_eq_true_eq] at h; omega
    have hsz:=hs l[i] (List.getElem_mem hi')
    have hsn:szRow l[i] c≤c:=szRow_sane l[i] c h0
    rw [List.drop_eq_getElem_cons hi'] at he
    simp -implicitDefEqProofs (maxSteps:=1000000) (disch:=omega) only [go_sem,List.getElem?_eq_getElem hi',IntWalk.i64_in]
    refine .of (c_l_szRow _ _ hsz ⟨h0,by omega⟩) ?_
    simp -implicitDefEqProofs (maxSteps:=1000000) only [go_sem]
    refine ⟨fun h2=>?_,fun h2=>?_⟩
    ·simp only [decide_eq_true_eq] at h2
     rw [he]
     simp only [List.map_cons,szAll,if_pos h2]
    ·simp only [decide_eq_false_iff_not] at h2
     refine ⟨(i + 1,szRow l[i] c),by rw [IntWalk.i64_in _ (by omega)]; rfl,⟨hi',by omega,by simp only; omega,?_⟩,by simp only; omega⟩
     rw [he]
     simp only [List.map_cons,szAll,if_neg h2]
   ·have hle:l.length≤i:=by simp only [decide_eq_false_iff_not] at h; omega
    rw [List.drop_of_length_le hle] at he
    simp only [szAll,List.map_nil] at he
    rw [he]
def x_l_toRowS:FnX:=⟨23,[.tmp 2],
  .q [.op 2 (.mv (.k (.one (.nils 7))))]
 (.q [.m 5 0,.n 6 5,.op 7 (.mks 7 96 [.pv (.string ⟨#[]⟩),.pv (.int .i64 0),.sl true 1 () [],.pv (.int .i64 0),.sl true 1 () [],.pv (.int .i64 0),.pv (.bool false)] (.t 6)),.m 3 7]
 (.seq (.q [.i 4 0]
 (.block 0 (.loop [0,3,4] (.seq (.q [.m 8 4,.m 9 0,.n 10 9,.b 11 .lss 8 10]
 (.cond 11 .skip (.exit 0)))
 (.seq (.block 1 (.reg [.m 14 3,.m 15 4,.m 16 0,.m 17 4,.x 18 7 16 17,.L 19 7 18,.c 20 150 [19],.x 21 7 14 15,.s 100001 7 21 20]))
 (.reg [.m 12 4,.B 13 .add 12 1,.m 4 13]))))))
 (.norm [3] (.q [.m 22 3,.m 2 22]
 .ret))))⟩
theorem r_l_toRowS {Te:TE} (c_l_toRow:C_l_toRow Te):C_l_toRowS (RF Te x_l_toRowS):=by
 intro l hl
 refine run0 ?_
 have hl1:=hl.1
 simp -implicitDefEqProofs (maxSteps:=1000000) (disch:=omega) only [x_l_toRowS,go_sem,IntWalk.i64_in]
 refine ⟨⟨by simp only [decide_eq_true_eq]; omega,by simp only [decide_eq_true_eq]; omega⟩,?_⟩
 refine loop_of (σ:=Nat) (fun i=>⟨[(0,.one (.ro 7 (l.map (RowV.enc false)))),(3,.one (.rf 24 0 [] 7 0 l.length)),(4,.one (.pv (.int .i64 i)))],[],
  [(0,[slT false 7 (RowV.enc false) l]),(24,[.sl true 7 () ((l.take i).map (RowV.enc true)++List.replicate (l.length - i) [.pv (.string ⟨#[]⟩),.pv (.int .i64 0),.sl true 1 () [],.pv (.int .i64 0),.sl true 1 () [],.pv (.int .i64 0),.pv (.bool false)])])]⟩) (fun i=>i≤l.length) (fun i=>l.length - i) 0 ?_ (Nat.zero_le _) ?_
 ·simp -implicitDefEqProofs (maxSteps:=1000000) only [go_sem]; rfl
 ·intro i hi
  simp -implicitDefEqProofs (maxSteps:=1000000) only [go_sem]
  refine ⟨fun h=>?_,fun h=>?_⟩
  ·have hi':i < l.length:=by simp only [decide_eq_true_eq] at h; omega
   simp -implicitDefEqProofs (maxSteps:=1000000) only [go_sem,List.getElem?_eq_getElem hi',fill_len (RowV.enc true) l [.pv (.string ⟨#[]⟩),.pv (.int .i64 0),.sl true 1 () [],.pv (.int .i64 0),.sl true 1 () [],.pv (.int .i64 0),.pv (.bool false)] hi,storeAp,setCells,List.getD_eq_getElem?_getD,fill_get (RowV.enc true) l [.pv (.string ⟨#[]⟩),.pv (.int .i64 0),.sl true 1 () [],.pv (.int .i64 0),.sl true 1 () [],.pv (.int .i64 0),.pv (.bool false)] hi']
   refine .of (c_l_toRow _ (hl.2 _ (List.getElem_mem hi'))) ?_
   simp -implicitDefEqProofs (maxSteps:=1000000) only [go_sem,fill_len (RowV.enc true) l [.pv (.string ⟨#[]⟩),.pv (.int .i64 0),.sl true 1 () [],.pv (.int .i64 0),.sl true 1 () [],.pv (.int .i64 0),.pv (.bool false)] hi,storeAp,setCells,List.getD_eq_getElem?_getD,fill_get (RowV.enc true) l [.pv (.string ⟨#[]⟩),.pv (.int .i64 0),.sl true 1 () [],.pv (.int .i64 0),.sl true 1 () [],.pv (.int .i64 0),.pv (.bool false)] hi']
   repeat (first | refine ⟨by decide,?_⟩ | refine ⟨by simpa using hi',?_⟩)
   refine ⟨i + 1,?_,hi',by omega⟩
   rw [← fill_set (RowV.enc true) l [.pv (.string ⟨#[]⟩),.pv (.int .i64 0),.sl true 1 () [],.pv (.int .i64 0),.sl true 1 () [],.pv (.int .i64 0),.pv (.bool false)] hi',IntWalk.i64_in _ (by omega)]
   rfl
  ·have:i=l.length:=by simp only [decide_eq_false_iff_not] at h; omega
   subst this
   simp -implicitDefEqProofs (maxSteps:=1000000) only [go_sem,fill_len (RowV.enc true) l [.pv (.string ⟨#[]⟩),.pv (.int .i64 0),.sl true 1 () [],.pv (.int .i64 0),.sl true 1 () [],.pv (.int .i64 0),.pv (.bool false)] hi,fill_end]
   refine ⟨by simp,?_⟩
   simp [take_map]
def x_l_eqRowS:FnX:=⟨27,[.tmp 4],
  .q [.F 4]
 (.seq (.q [.m 6 0,.n 7 6,.m 8 1,.n 9 8,.b 10 .neq 7 9]
 (.c 10 (.q [.F 4]
 .ret)))
 (.seq (.q [.i 5 0]
 (.block 0 (.loop [0,1,5] (.seq (.q [.m 11 5,.m 12 0,.n 13 12,.b 14 .lss 11 13]
 (.cond 14 .skip (.exit 0)))
 (.seq (.block 1 (.seq (.draw [.m 17 0,.m 18 5,.x 19 7 17 18,.L 20 7 19,.m 21 1,.m 22 5,.x 23 7 21 22,.L 24 7 23,.c 25 169 [20,24],.N 26 25] [[],[],[0,1],[2],[],[],[4,5],[6],[3,7],[8]])
 (.c 26 (.q [.F 4]
 .ret))))
 (.reg [.m 15 5,.B 16 .add 15 1,.m 5 16]))))))
 (.norm [] (.q [.T 4]
 .ret))))⟩
theorem r_l_eqRowS {Te:TE} (c_l_eqRow:C_l_eqRow Te):C_l_eqRowS (RF Te x_l_eqRowS):=by
 intro l m hl
 refine run0 ?_
 have hl1:=hl.1
 simp -implicitDefEqProofs (maxSteps:=1000000) (disch:=omega) only [x_l_eqRowS,go_sem,IntWalk.i64_in]
 refine ⟨fun h=>?_,fun h=>?_⟩
 ·have:l≠m:=fun e=>by simp [e] at h
  simp [this]
 ·have hlen:l.length=m.length:=by simp at h; omega
  refine loop_of (σ:=Nat) (fun i=>⟨[(0,.one (.ro 7 (l.map (RowV.enc false)))),(1,.one (.ro 7 (m.map (RowV.enc false)))),(5,.one (.pv (.int .i64 i)))],[],[(0,[slT false 7 (RowV.enc false) l]),(1,[slT false 7 (RowV.enc false) m])]⟩) (fun i=>i≤l.length∧l.take i=m.take i) (fun i=>l.length - i) 0 ?_ ⟨Nat.zero_le _,by simp⟩ ?_
  ·simp -implicitDefEqProofs (maxSteps:=1000000) only [go_sem]; rfl
  ·intro i ⟨hi,hs⟩
   simp -implicitDefEqProofs (maxSteps:=1000000) only [go_sem]
   refine ⟨fun h=>?_,fun h=>?_⟩
   ·have hi':i < l.length:=by simp only [decide_eq_true_eq] at h; omega
    have hj':i < m.length:=by omega
    simp -implicitDefEqProofs (maxSteps:=1000000) only [go_sem,List.getElem?_eq_getElem hi',List.getElem?_eq_getElem hj']
    refine .of (c_l_eqRow _ _ (hl.2 _ (List.getElem_mem hi'))) ?_
    simp -implicitDefEqProofs (maxSteps:=1000000) only [go_sem]
    refine ⟨by decide,fun h2=>?_,fun h2=>?_⟩
    ·have:l≠m:=fun e=>by subst e; simp at h2
     simp [this]
    ·refine ⟨i + 1,by rw [IntWalk.i64_in _ (by omega)]; rfl,⟨hi',same_step hi' hj' hs ?_⟩,by omega⟩
     simpa using h2
   ·have hle:l.length≤i:=by simp only [decide_eq_false_iff_not] at h; omega
    have:l=m:=same_end hle (by omega) hs
    simp [this]
def x_l_heldRowS:FnX:=⟨83,[.tmp 4],
  .q [.i 4 0]
 (.seq (.q [.i 5 0]
 (.block 0 (.loop [0,1,5] (.seq (.q [.m 6 5,.m 7 0,.n 8 7,.b 9 .lss 6 8]
 (.cond 9 .skip (.exit 0)))
 (.seq (.block 1 (.seq (.seq (.draw [.m 12 0,.m 13 5,.x 14 7 12 13,.f 15 14 0,.l 16 15,.m 17 1,.c 18 38 [17],.b 19 .neq 16 18] [[],[],[0,1],[2],[3],[],[5],[4,6]])
 (.c 19 (.q [.i 4 (-1)]
 .ret)))
 (.q [.m 20 1,.B 21 .add 20 1,.m 1 21]
 (.seq (.q [.m 22 0,.m 23 5,.x 24 7 22 23,.f 25 24 1,.f 26 25 0,.l 27 26,.m 28 1,.b 29 .neq 27 28]
 (.c 29 (.q [.i 4 (-1)]
 .ret)))
 (.q [.m 30 1,.B 31 .add 30 1,.m 1 31]
 (.q [.m 32 0,.m 33 5,.x 34 7 32 33,.f 35 34 1,.f 36 35 1,.l 37 36,.m 38 1,.c 39 172 [37,38],.m 1 39]
 (.seq (.q [.m 40 1,.B 41 .lss 40 0]
 (.c 41 (.q [.i 4 (-1)]
 .ret)))
 (.seq (.q [.m 42 0,.m 43 5,.x 44 7 42 43,.f 45 44 3,.f 46 45 0,.l 47 46,.m 48 1,.b 49 .neq 47 48]
 (.c 49 (.q [.i 4 (-1)]
 .ret)))
 (.q [.m 50 1,.B 51 .add 50 1,.m 1 51]
 (.q [.m 52 0,.m 53 5,.x 54 7 52 53,.f 55 54 3,.f 56 55 1,.l 57 56,.m 58 1,.c 59 172 [57,58],.m 1 59]
 (.seq (.q [.m 60 1,.B 61 .lss 60 0]
 (.c 61 (.q [.i 4 (-1)]
 .ret)))
 (.seq (.q [.m 62 0,.m 63 5,.x 64 7 62 63,.f 65 64 5,.l 66 65,.m 67 1,.b 68 .neq 66 67]
 (.c 68 (.q [.i 4 (-1)]
 .ret)))
 (.q [.m 69 1,.B 70 .add 69 1,.m 1 70]
 (.seq (.q [.m 71 0,.m 72 5,.x 73 7 71 72,.f 74 73 6,.l 75 74,.m 76 1,.B 77 .rem 76 3,.B 78 .eql 77 0,.op 79 (.beq true (.t 75) (.t 78))]
 (.c 79 (.q [.i 4 (-1)]
 .ret)))
 (.reg [.m 80 1,.B 81 .add 80 1,.m 1 81])))))))))))))))
 (.reg [.m 10 5,.B 11 .add 10 1,.m 5 11]))))))
 (.norm [1] (.q [.m 82 1,.m 4 82]
 .ret)))⟩
theorem r_l_heldRowS {Te:TE} (c_l_markText:C_l_markText Te) (c_l_heldByteS:C_l_heldByteS Te):C_l_heldRowS (RF Te x_l_heldRowS):=by
 intro l k hl hk
 refine run0 ?_
 have hl1:=hl.1
 simp -implicitDefEqProofs (maxSteps:=1000000) (disch:=omega) only [x_l_heldRowS,go_sem,IntWalk.i64_in]
 refine loop_of (σ:=Nat) (fun i=>⟨[(0,.one (.ro 7 ((markL RowV.markE RowV.farE l k).map (RowV.enc false)))),(1,.one (.pv (.int .i64 (farL RowV.farE (l.take i) k)))),(5,.one (.pv (.int .i64 i)))],[],[(0,[slT false 7 (RowV.enc false) (markL RowV.markE RowV.farE l k)]),(1,[iT k])]⟩) (fun i=>i≤l.length) (fun i=>l.length - i) 0 ?_ (Nat.zero_le _) ?_
 ·simp -implicitDefEqProofs (maxSteps:=1000000) only [go_sem]; simp [farL]
 ·intro i hi
  simp -implicitDefEqProofs (maxSteps:=1000000) only [go_sem,markL_length]
  refine ⟨fun h=>?_,fun h=>?_⟩
  ·have hi':i < l.length:=by simp only [decide_eq_true_eq] at h; omega
   have hb:k≤farL RowV.farE (l.take i) k∧farL RowV.farE (l.take i) k≤k + 8796103507968:=by
    have q:=farL_le (n:=2 ^ 21) (k:=k) (c:=4194309) (l:=l.take i) ⟨by rw [List.length_take]; omega,fun y hy=>hl.2 y (List.mem_of_mem_take hy)⟩ (fun y hy k=>RowV.farE_le hy k)
    omega
   have he:=hl.2 _ (List.getElem_mem hi')
   have hget:=markL_get RowV.markE RowV.farE l k hi'
   have hnext:=farL_take RowV.farE l k hi'
   have e0:l[i].Old.B.length≤2 ^ 21:=he.1
   have e1:l[i].New.B.length≤2 ^ 21:=he.2
   generalize farL RowV.farE (l.take i) k=j at hb hget hnext ⊢
   simp only [RowV.markE] at hget
   try simp -implicitDefEqProofs (maxSteps:=1000000) (disch:=omega) only [go_sem,hget,IntWalk.i64_in,mkB,bne_self_eq_false,decide_true,Bool.not_true]
   repeat (refine ⟨by decide,?_⟩)
   refine .of (c_l_markText _ (by omega)) ?_
   simp -implicitDefEqProofs (maxSteps:=1000000) (disch:=omega) only [go_sem,hget,IntWalk.i64_in,mkB,bne_self_eq_false,decide_true,Bool.not_true]
   repeat (refine ⟨by decide,?_⟩)
   refine .of (c_l_heldByteS (l[i].Old.B.length) _ (by omega) (by omega)) ?_
   simp -implicitDefEqProofs (maxSteps:=1000000) (disch:=omega) only [go_sem,hget,IntWalk.i64_in,mkB,bne_self_eq_false,decide_true,Bool.not_true]
   refine ⟨fun q=>by simp only [decide_eq_true_eq] at q; omega,fun _=>?_⟩
   try simp -implicitDefEqProofs (maxSteps:=1000000) (disch:=omega) only [go_sem,hget,IntWalk.i64_in,mkB,bne_self_eq_false,decide_true,Bool.not_true]
   repeat (refine ⟨by decide,?_⟩)
   refine .of (c_l_heldByteS (l[i].New.B.length) _ (by omega) (by omega)) ?_
   simp -implicitDefEqProofs (maxSteps:=1000000) (disch:=omega) only [go_sem,hget,IntWalk.i64_in,mkB,bne_self_eq_false,decide_true,Bool.not_true]
   refine ⟨fun q=>by simp only [decide_eq_true_eq] at q; omega,fun _=>?_⟩
   try simp -implicitDefEqProofs (maxSteps:=1000000) (disch:=omega) only [go_sem,hget,IntWalk.i64_in,mkB,bne_self_eq_false,decide_true,Bool.not_true]
   repeat (refine ⟨by decide,?_⟩)
   refine ⟨i + 1,?_,hi',by omega⟩
   rw [hnext]
   rfl
  ·have:i=l.length:=by simp only [decide_eq_false_iff_not] at h; omega
   subst this
   simp -implicitDefEqProofs (maxSteps:=1000000) only [go_sem,List.take_length]
def x_l_toMark:FnX:=⟨14,[.cell 2 (some 3)],
  .q [.v 1 0,.op 2 (.alloc [.i 0,.i 0,.i 0])]
 (.q [.op 3 (.alloc [.i 0,.i 0,.i 0])]
 (.q [.f 4 1 0,.l 5 4,.f 6 3 0,.s 100001 1 6 5]
 (.q [.f 7 1 1,.l 8 7,.f 9 3 1,.s 100002 1 9 8]
 (.q [.f 10 1 2,.l 11 10,.f 12 3 2,.s 100003 1 12 11]
 (.q [.L 13 3 3,.s 100004 3 2 13]
 .ret)))))⟩
theorem r_l_toMark {Te:TE}:C_l_toMark (RF Te x_l_toMark):=by
 intro x
 refine run0 ?_
 simp -implicitDefEqProofs (maxSteps:=1000000) only [x_l_toMark,go_sem]
def x_l_eqMark:FnX:=⟨20,[.tmp 4],
  .q [.v 2 0,.v 3 1,.F 4]
 (.seq (.q [.f 5 2 0,.l 6 5,.f 7 3 0,.l 8 7,.b 9 .neq 6 8]
 (.c 9 (.q [.F 4]
 .ret)))
 (.seq (.q [.f 10 2 1,.l 11 10,.f 12 3 1,.l 13 12,.b 14 .neq 11 13]
 (.c 14 (.q [.F 4]
 .ret)))
 (.seq (.q [.f 15 2 2,.l 16 15,.f 17 3 2,.l 18 17,.b 19 .neq 16 18]
 (.c 19 (.q [.F 4]
 .ret)))
 (.q [.T 4]
 .ret))))⟩
theorem r_l_eqMark {Te:TE}:C_l_eqMark (RF Te x_l_eqMark):=by
 intro x y
 refine run0 ?_
 have key:(x=y)↔x.Who=y.Who∧x.Seq=y.Seq∧x.Code=y.Code:=by cases x; cases y; simp
 simp only [key]
 clear key
 simp -implicitDefEqProofs (maxSteps:=1000000) only [x_l_eqMark,go_sem]
 refine ⟨fun q=>?_,fun q=>?_⟩
 ·have n0:¬ (x.Who=y.Who):=by simpa using q
  simp only [n0,false_and,and_false,true_and,decide_false]
 have e0:x.Who=y.Who:=by simpa using q
 clear q
 refine ⟨fun q=>?_,fun q=>?_⟩
 ·have n1:¬ (x.Seq=y.Seq):=by simpa using q
  simp only [e0,n1,false_and,and_false,true_and,decide_false]
 have e1:x.Seq=y.Seq:=by simpa using q
 clear q
 refine ⟨fun q=>?_,fun q=>?_⟩
 ·have n2:¬ (x.Code=y.Code):=by simpa using q
  simp only [e0,e1,n2,false_and,and_false,true_and,decide_false]
 have e2:x.Code=y.Code:=by simpa using q
 clear q
 simp only [e0,e1,e2,true_and,and_true,decide_true]
def x_l_szMarkS:FnX:=⟨12,[.tmp 4],
  .q [.i 4 0]
 (.q [.m 5 1,.m 6 0,.n 7 6,.b 8 .sub 5 7,.m 1 8]
 (.seq (.q [.m 9 1,.B 10 .lss 9 0]
 (.c 10 (.q [.i 4 (-1)]
 .ret)))
 (.q [.m 11 1,.m 4 11]
 .ret)))⟩
theorem r_l_szMarkS {Te:TE}:C_l_szMarkS (RF Te x_l_szMarkS):=by
 intro l k hl hk
 refine run0 ?_
 simp -implicitDefEqProofs (maxSteps:=1000000) (disch:=omega) only [x_l_szMarkS,go_sem,IntWalk.i64_in]
 refine ⟨fun h=>?_,fun h=>?_⟩
 ·simp only [decide_eq_true_eq] at h
  simp only [left,if_pos h]
 ·simp only [decide_eq_false_iff_not] at h
  simp only [left,if_neg h]
def x_l_eqWrS:FnX:=⟨27,[.tmp 4],
  .q [.F 4]
 (.seq (.q [.m 6 0,.n 7 6,.m 8 1,.n 9 8,.b 10 .neq 7 9]
 (.c 10 (.q [.F 4]
 .ret)))
 (.seq (.q [.i 5 0]
 (.block 0 (.loop [0,1,5] (.seq (.q [.m 11 5,.m 12 0,.n 13 12,.b 14 .lss 11 13]
 (.cond 14 .skip (.exit 0)))
 (.seq (.block 1 (.seq (.draw [.m 17 0,.m 18 5,.x 19 2 17 18,.L 20 2 19,.m 21 1,.m 22 5,.x 23 2 21 22,.L 24 2 23,.c 25 168 [20,24],.N 26 25] [[],[],[0,1],[2],[],[],[4,5],[6],[3,7],[8]])
 (.c 26 (.q [.F 4]
 .ret))))
 (.reg [.m 15 5,.B 16 .add 15 1,.m 5 16]))))))
 (.norm [] (.q [.T 4]
 .ret))))⟩
theorem r_l_eqWrS {Te:TE} (c_l_eqWr:C_l_eqWr Te):C_l_eqWrS (RF Te x_l_eqWrS):=by
 intro l m hl
 refine run0 ?_
 have hl1:=hl.1
 simp -implicitDefEqProofs (maxSteps:=1000000) (disch:=omega) only [x_l_eqWrS,go_sem,IntWalk.i64_in]
 refine ⟨fun h=>?_,fun h=>?_⟩
 ·have:l≠m:=fun e=>by simp [e] at h
  simp [this]
 ·have hlen:l.length=m.length:=by simp at h; omega
  refine loop_of (σ:=Nat) (fun i=>⟨[(0,.one (.ro 2 (l.map (WrV.enc false)))),(1,.one (.ro 2 (m.map (WrV.enc false)))),(5,.one (.pv (.int .i64 i)))],[],[(0,[slT false 2 (WrV.enc false) l]),(1,[slT false 2 (WrV.enc false) m])]⟩) (fun i=>i≤l.length∧l.take i=m.take i) (fun i=>l.length - i) 0 ?_ ⟨Nat.zero_le _,by simp⟩ ?_
  ·simp -implicitDefEqProofs (maxSteps:=1000000) only [go_sem]; rfl
  ·intro i ⟨hi,hs⟩
   simp -implicitDefEqProofs (maxSteps:=1000000) only [go_sem]
   refine ⟨fun h=>?_,fun h=>?_⟩
   ·have hi':i < l.length:=by simp only [decide_eq_true_eq] at h; omega
    have hj':i < m.length:=by omega
    simp -implicitDefEqProofs (maxSteps:=1000000) only [go_sem,List.getElem?_eq_getElem hi',List.getElem?_eq_getElem hj']
    refine .of (c_l_eqWr _ _ (hl.2 _ (List.getElem_mem hi'))) ?_
    simp -implicitDefEqProofs (maxSteps:=1000000) only [go_sem]
    refine ⟨by decide,fun h2=>?_,fun h2=>?_⟩
    ·have:l≠m:=fun e=>by subst e; simp at h2
     simp [this]
    ·refine ⟨i + 1,by rw [IntWalk.i64_in _ (by omega)]; rfl,⟨hi',same_step hi' hj' hs ?_⟩,by omega⟩
     simpa using h2
   ·have hle:l.length≤i:=by simp only [decide_eq_false_iff_not] at h; omega
    have:l=m:=same_end hle (by omega) hs
    simp [this]
def x_l_markWrS:FnX:=⟨27,[.tmp 4],
  .q [.i 4 0]
 (.seq (.q [.i 5 0]
 (.block 0 (.loop [0,1,5] (.seq (.q [.m 6 5,.m 7 0,.n 8 7,.b 9 .lss 6 8]
 (.cond 9 .skip (.exit 0)))
 (.seq (.block 1 (.q [.m 12 0,.m 13 5,.m 14 1,.x 15 2 12 13,.f 16 15 0,.s 100001 1 16 14]
 (.q [.m 17 1,.B 18 .add 17 1,.m 1 18]
 (.reg [.m 19 0,.m 20 5,.x 21 2 19 20,.f 22 21 1,.l 23 22,.m 24 1,.op 25 (.io 171 (.t 23) [(.t 24)]),.m 1 25]))))
 (.reg [.m 10 5,.B 11 .add 10 1,.m 5 11]))))))
 (.norm [1] (.q [.m 26 1,.m 4 26]
 .ret)))⟩
theorem r_l_markWrS {Te:TE} (c_l_markByteS:C_l_markByteS Te):C_l_markWrS (RF Te x_l_markWrS):=by
 intro l k hl hk
 refine run0 ?_
 have hl1:=hl.1
 simp -implicitDefEqProofs (maxSteps:=1000000) (disch:=omega) only [x_l_markWrS,go_sem,IntWalk.i64_in]
 refine loop_of (σ:=Nat) (fun i=>⟨[(0,.one (.rf 0 0 [] 2 0 l.length)),(1,.one (.pv (.int .i64 (farL WrV.farE (l.take i) k)))),(5,.one (.pv (.int .i64 i)))],[],[(0,[.sl true 2 () ((markL WrV.markE WrV.farE (l.take i) k).map (WrV.enc true)++(l.drop i).map (WrV.enc true))]),(1,[iT k])]⟩) (fun i=>i≤l.length) (fun i=>l.length - i) 0 ?_ (Nat.zero_le _) ?_
 ·simp -implicitDefEqProofs (maxSteps:=1000000) only [go_sem]; simp [markL,farL]
 ·intro i hi
  simp -implicitDefEqProofs (maxSteps:=1000000) only [go_sem]
  refine ⟨fun h=>?_,fun h=>?_⟩
  ·have hi':i < l.length:=by simp only [decide_eq_true_eq] at h; omega
   have hb:k≤farL WrV.farE (l.take i) k∧farL WrV.farE (l.take i) k≤k + 4398048608256:=by
    have q:=farL_le (n:=2 ^ 21) (k:=k) (c:=2097153) (l:=l.take i) ⟨by rw [List.length_take]; omega,fun y hy=>hl.2 y (List.mem_of_mem_take hy)⟩ (fun y hy k=>WrV.farE_le hy k)
    omega
   have he:=hl.2 _ (List.getElem_mem hi')
   have hset:=markL_set (WrV.enc true) WrV.markE WrV.farE l k hi'
   have hnext:=farL_take WrV.farE l k hi'
   have e0:l[i].B.length≤2 ^ 21:=he
   generalize farL WrV.farE (l.take i) k=j at hb hset hnext ⊢
   try simp -implicitDefEqProofs (maxSteps:=1000000) (disch:=omega) only [go_sem,storeAp,setCells,List.length_set,List.set_set,markL_len (WrV.enc true) WrV.markE WrV.farE l k hi,List.getD_eq_getElem?_getD,markL_at (WrV.enc true) WrV.markE WrV.farE l k hi',markL_reat (WrV.enc true) WrV.markE WrV.farE l k hi',Option.getD_some,IntWalk.i64_in]
   repeat (first | refine ⟨by decide,?_⟩ | refine ⟨decide_eq_true hi',?_⟩)
   refine .of (c_l_markByteS (l[i].B) _ (by omega) (by omega)) ?_
   simp -implicitDefEqProofs (maxSteps:=1000000) (disch:=omega) only [go_sem,storeAp,setCells,List.length_set,List.set_set,markL_len (WrV.enc true) WrV.markE WrV.farE l k hi,List.getD_eq_getElem?_getD,markL_at (WrV.enc true) WrV.markE WrV.farE l k hi',markL_reat (WrV.enc true) WrV.markE WrV.farE l k hi',Option.getD_some,IntWalk.i64_in]
   repeat (first | refine ⟨by decide,?_⟩ | refine ⟨decide_eq_true hi',?_⟩)
   refine ⟨i + 1,?_,hi',by omega⟩
   rw [hnext,← hset]
   rfl
  ·have:i=l.length:=by simp only [decide_eq_false_iff_not] at h; omega
   subst this
   simp -implicitDefEqProofs (maxSteps:=1000000) only [go_sem,List.take_length,List.drop_length,List.map_nil,List.append_nil]
def x_l_heldWrS:FnX:=⟨31,[.tmp 4],
  .q [.i 4 0]
 (.seq (.q [.i 5 0]
 (.block 0 (.loop [0,1,5] (.seq (.q [.m 6 5,.m 7 0,.n 8 7,.b 9 .lss 6 8]
 (.cond 9 .skip (.exit 0)))
 (.seq (.block 1 (.seq (.q [.m 12 0,.m 13 5,.x 14 2 12 13,.f 15 14 0,.l 16 15,.m 17 1,.b 18 .neq 16 17]
 (.c 18 (.q [.i 4 (-1)]
 .ret)))
 (.q [.m 19 1,.B 20 .add 19 1,.m 1 20]
 (.q [.m 21 0,.m 22 5,.x 23 2 21 22,.f 24 23 1,.l 25 24,.m 26 1,.c 27 172 [25,26],.m 1 27]
 (.q [.m 28 1,.B 29 .lss 28 0]
 (.c 29 (.q [.i 4 (-1)]
 .ret)))))))
 (.reg [.m 10 5,.B 11 .add 10 1,.m 5 11]))))))
 (.norm [1] (.q [.m 30 1,.m 4 30]
 .ret)))⟩
theorem r_l_heldWrS {Te:TE} (c_l_heldByteS:C_l_heldByteS Te):C_l_heldWrS (RF Te x_l_heldWrS):=by
 intro l k hl hk
 refine run0 ?_
 have hl1:=hl.1
 simp -implicitDefEqProofs (maxSteps:=1000000) (disch:=omega) only [x_l_heldWrS,go_sem,IntWalk.i64_in]
 refine loop_of (σ:=Nat) (fun i=>⟨[(0,.one (.ro 2 ((markL WrV.markE WrV.farE l k).map (WrV.enc false)))),(1,.one (.pv (.int .i64 (farL WrV.farE (l.take i) k)))),(5,.one (.pv (.int .i64 i)))],[],[(0,[slT false 2 (WrV.enc false) (markL WrV.markE WrV.farE l k)]),(1,[iT k])]⟩) (fun i=>i≤l.length) (fun i=>l.length - i) 0 ?_ (Nat.zero_le _) ?_
 ·simp -implicitDefEqProofs (maxSteps:=1000000) only [go_sem]; simp [farL]
 ·intro i hi
  simp -implicitDefEqProofs (maxSteps:=1000000) only [go_sem,markL_length]
  refine ⟨fun h=>?_,fun h=>?_⟩
  ·have hi':i < l.length:=by simp only [decide_eq_true_eq] at h; omega
   have hb:k≤farL WrV.farE (l.take i) k∧farL WrV.farE (l.take i) k≤k + 4398048608256:=by
    have q:=farL_le (n:=2 ^ 21) (k:=k) (c:=2097153) (l:=l.take i) ⟨by rw [List.length_take]; omega,fun y hy=>hl.2 y (List.mem_of_mem_take hy)⟩ (fun y hy k=>WrV.farE_le hy k)
    omega
   have he:=hl.2 _ (List.getElem_mem hi')
   have hget:=markL_get WrV.markE WrV.farE l k hi'
   have hnext:=farL_take WrV.farE l k hi'
   have e0:l[i].B.length≤2 ^ 21:=he
   generalize farL WrV.farE (l.take i) k=j at hb hget hnext ⊢
   simp only [WrV.markE] at hget
   try simp -implicitDefEqProofs (maxSteps:=1000000) (disch:=omega) only [go_sem,hget,IntWalk.i64_in,mkB,bne_self_eq_false,decide_true,Bool.not_true]
   repeat (refine ⟨by decide,?_⟩)
   refine .of (c_l_heldByteS (l[i].B.length) _ (by omega) (by omega)) ?_
   simp -implicitDefEqProofs (maxSteps:=1000000) (disch:=omega) only [go_sem,hget,IntWalk.i64_in,mkB,bne_self_eq_false,decide_true,Bool.not_true]
   refine ⟨fun q=>by simp only [decide_eq_true_eq] at q; omega,fun _=>?_⟩
   try simp -implicitDefEqProofs (maxSteps:=1000000) (disch:=omega) only [go_sem,hget,IntWalk.i64_in,mkB,bne_self_eq_false,decide_true,Bool.not_true]
   repeat (refine ⟨by decide,?_⟩)
   refine ⟨i + 1,?_,hi',by omega⟩
   rw [hnext]
   rfl
  ·have:i=l.length:=by simp only [decide_eq_false_iff_not] at h; omega
   subst this
   simp -implicitDefEqProofs (maxSteps:=1000000) only [go_sem,List.take_length]
def x_s_l12Mark:FnX:=⟨16,[.tmp 2],
  .q [.v 1 0,.F 2]
 (.q [.f 3 1 0,.l 4 3,.op 5 (.call 42 [0,0,0] [(.t 4),(.i 1),(.i 9)]),.m 6 5,.y 6 (.f 7 1 1),.y 6 (.l 8 7),.y 6 (.c 9 43 [8]),.a 10 6 9,.m 11 10,.y 11 (.f 12 1 2),.y 11 (.l 13 12),.y 11 (.op 14 (.call 42 [0,0,0] [(.t 13),(.i 0),(.i 6)])),.a 15 11 14,.m 2 15]
 .ret)⟩
theorem r_s_l12Mark {Te:TE} (c_s_l1In:C_s_l1In Te) (c_s_l1Word:C_s_l1Word Te):C_s_l12Mark (RF Te x_s_l12Mark):=by
 intro m
 refine run0 ?_
 simp -implicitDefEqProofs (maxSteps:=1000000) only [x_s_l12Mark,go_sem,MarkV.ok]
 repeat refine ⟨sc,?_⟩
 try exact sf
 refine C0 (c_s_l1In _ _ _) ?_
 cases g1:win m.Who 1 9
 ·exact F1 g1
 refine G1 g1 ?_
 refine C0 (c_s_l1Word _) ?_
 cases g2:win m.Seq 0 65535
 ·exact F1 g2
 refine G1 g2 ?_
 exact D0 (c_s_l1In _ _ _)
def x_s_NodeGet:FnX:=⟨33,[.tmp 4,.tmp 5],
  .q [.v 2 0,.op 4 (.mv (.k (.one (.pv (.string ⟨#[]⟩))))),.i 5 0]
 (.seq (.q [.L 9 10 2,.c 10 21 [9],.N 11 10]
 (.c 11 (.q [.op 4 (.mv (.k (.one (.pv (.string ⟨#[]⟩))))),.i 5 1]
 .ret)))
 (.q [.f 12 2 0,.f 13 12 4,.L 14 3 13,.m 15 1,.c 16 132 [14,15],.m 6 16]
 (.seq (.q [.m 17 6,.B 18 .lss 17 0]
 (.c 18 (.q [.op 4 (.mv (.k (.one (.pv (.string ⟨#[]⟩))))),.i 5 2]
 .ret)))
 (.q [.f 20 2 0,.f 21 20 4,.f 22 21 0,.l 23 22,.m 24 6,.x 25 7 23 24,.L 26 7 25,.c 27 133 [26],.m 19 27,.e 28 19 0,.e 29 19 1,.m 7 28,.m 8 29]
 (.seq (.q [.m 30 8,.N 31 30]
 (.c 31 (.q [.op 4 (.mv (.k (.one (.pv (.string ⟨#[]⟩))))),.i 5 4]
 .ret)))
 (.q [.m 32 7,.m 4 32,.i 5 0]
 .ret))))))⟩
theorem r_s_NodeGet {Te:TE} (c_s_l15Up:C_s_l15Up Te) (c_s_RowAt:C_s_RowAt Te) (c_s_RowText:C_s_RowText Te):C_s_NodeGet (RF Te x_s_NodeGet):=by
 intro n key h
 refine X0 x_s_NodeGet.eq_1 ?_
 refine C0 (c_s_l15Up n h) ?_
 cases g:n.up
 ·have e:n.get key=(⟨#[]⟩,1):=by rw [NodeV.get,g]; rfl
  exact F1 e
 refine G0 ?_
 refine C0 (c_s_RowAt n.S.T key h.2.1.1) ?_
 rcases rowAt_cases n.S.T.Rows key with ⟨e1,e2⟩ | ⟨hk,e1,e2⟩
 ·have e:n.get key=(⟨#[]⟩,2):=by rw [NodeV.get,g,e2]; rfl
  exact F2 e1 e
 have hr:=rowOk_13 (TabV.ok_row (NodeV.up_tab g) hk)
 have c1:decide ((rowIx n.S.T.Rows key:Int) < 0)=false:=decide_eq_false (by omega)
 refine G3 e1 e2 c1 ?_
 refine C0 (c_s_RowText n.S.T.Rows[rowIx n.S.T.Rows key] hr) ?_
 cases g2:n.S.T.Rows[rowIx n.S.T.Rows key].rtext.2
 ·have e:n.get key=(⟨#[]⟩,4):=by rw [NodeV.get,g,e2]; simp only [if_true,g2]; rfl
  exact F2 e g2
 ·have e:n.get key=(n.S.T.Rows[rowIx n.S.T.Rows key].rtext.1,0):=by rw [NodeV.get,g,e2]; simp only [if_true,g2]
  exact F2 e g2
def x_i_PutText:FnX:=⟨19,[.tmp 4],
  .q [.op 4 (.mv (.k (.one (.nils 1))))]
 (.seq (.q [.m 5 1,.op 6 (.slen (.t 5)),.B 7 .gtr 6 60]
 (.c 7 (.q [.m 8 0,.op 9 (.bslice 1 [(.t 8)]),.c 10 152 [9],.m 4 10]
 .ret)))
 (.q [.m 11 0,.m 12 1,.op 13 (.slen (.t 12)),.c 14 208 [11,13],.m 15 1,.op 16 (.conv .s2b (.t 15)),.op 17 (.bslice 1 [(.t 14),(.t 16)]),.c 18 152 [17],.m 4 18]
 .ret))⟩
theorem r_i_PutText {Te:TE} (c_i_joined:C_i_joined Te) (c_i_PutW:C_i_PutW Te):C_i_PutText (RF Te x_i_PutText):=by
 intro b t h ht
 refine run0 ?_
 simp -implicitDefEqProofs (maxSteps:=1000000) only [x_i_PutText,go_sem]
 refine ⟨fun q=>?_,fun q=>?_⟩
 ·have q':(t.size:Int) > 60:=by simpa using q
  simp only [putText,if_pos q']
  refine .of (c_i_joined [b] (by rw [flat1]; omega) (by show 1≤2 ^ 31; decide)) ?_
  try simp -implicitDefEqProofs (maxSteps:=1000000) only [go_sem,flat1]
  repeat refine ⟨sc,?_⟩
  try exact sf
 ·have q':¬ ((t.size:Int) > 60):=by simpa using q
  have q3:t.data.toList.length=t.size:=by rw [Array.length_toList]; rfl
  have el:=putW_len b t.size
  simp only [putText,if_neg q']
  refine .of (c_i_PutW b _ (by omega)) ?_
  try simp -implicitDefEqProofs (maxSteps:=1000000) only [go_sem,ofBytes_eq]
  repeat refine ⟨sc,?_⟩
  try exact sf
  refine .of (c_i_joined [putW b t.size,t.data.toList] (by rw [flat2,List.length_append,el]; omega) (by show 2≤2 ^ 31; decide)) ?_
  simp -implicitDefEqProofs (maxSteps:=1000000) only [go_sem,flat2]
  refine ⟨decide_eq_true (Nat.le_refl _),?_⟩
  rw [List.take_of_length_le (by rw [List.length_map,List.length_append]; exact Nat.le_refl _)]
end Go.X

