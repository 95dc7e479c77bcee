/- Texts: CVt CVzf_3 CVzf_6 CVzt_2 CVj_3 CR_2 CVze_2 CQ CVp_2 CVs_2 CVla_2 CU CVd_2. -/
import Derived.Test.YtmmjaijeeeilcaaGreatDoorD04
set_option linter.unusedVariables false
set_option linter.unusedSimpArgs false
namespace Go.X
set_option maxRecDepth 100000
set_option maxHeartbeats 8000000
def x_A1_2:XCode:=.seq (.q [.L 54 3 6,.c 55 179 [54],.N 56 55]
 (.c 56 (.q [.L 57 3 2,.c 58 246 [57],.s 100007 3 4 58,.F 5]
 .ret)))
 (.q [.L 59 3 6,.s 100008 3 4 59,.T 5]
 .ret)
def x_A1_1:XCode:=.seq (.q [.f 40 3 10,.l 41 40,.B 42 .gtr 41 0]
 (.c 42 (.reg [.f 43 6 2,.l 44 43,.f 45 3 10,.l 46 45,.f 47 3 11,.l 48 47,.f 49 3 12,.l 50 49,.op 51 (.build [.i 0,.i 0,.i 0] [(0,1,(.t 46)),(1,1,(.t 48)),(2,1,(.t 50))]),.c 52 310 [44,51],.f 53 6 2,.s 100006 1 53 52])))
 (.norm [2,4,6] (x_A1_2))
def x_A1:FnX:=⟨60,[.cell 4 (some 3),.tmp 5],
  .q [.v 2 0,.v 3 1,.op 4 (.alloc [.nils 7,.i 0,.nils 3]),.F 5]
 (.q [.L 7 3 2,.c 8 246 [7],.op 6 (.alloc [.nils 7,.i 0,.nils 3]),.s 100001 3 6 8]
 (.seq (.q [.L 9 13 3,.c 10 306 [9],.N 11 10,.m 12 11,.z 12 (.L 13 3 2),.z 12 (.c 14 179 [13]),.z 12 (.N 15 14),.r 16 12 15]
 (.c 16 (.q [.L 17 3 6,.s 100002 3 4 17,.F 5]
 .ret)))
 (.seq (.q [.f 18 3 0,.l 19 18]
 (.block 0 (.q [.B 21 .eql 19 1,.m 20 21]
 (.cond 20 (.reg [.f 22 6 0,.l 23 22,.f 24 3 1,.L 25 7 24,.op 26 (.call 307 [1,0] [(.t 23),(.t 25)]),.f 27 6 0,.s 100003 1 27 26]) (.q [.B 29 .eql 19 2,.m 28 29]
 (.cond 28 (.reg [.f 30 6 0,.l 31 30,.op 32 (.clos 309 (.t 3)),.op 33 (.vcall 308 309 [1,15] [(.t 31)] (.t 32)),.f 34 6 0,.s 100004 1 34 33]) (.q [.B 36 .eql 19 3,.m 35 36]
 (.c 35 (.reg [.f 37 3 9,.l 38 37,.f 39 6 1,.s 100005 1 39 38])))))))))
 (.norm [2,3,4,6] (x_A1_1)))))⟩
theorem r_A1 {Te:TE} (c_Bu:C_Bu Te) (c_B1:C_B1 Te) (c_Bf:C_Bf Te) (c_Cg:C_Cg Te) (c_Gn:C_Gn Te) (c_Cf:C_Cf Te):C_A1 (RF Te x_A1):=by
 intro t r ht hr
 have hL:=ht.len (by decide)
 have hLr:=(hr.len (by decide))
 have hci:=change_in ht hr
 have h1:=ht.1.1
 have h2:=ht.2
 refine X0 x_A1.eq_1 ?_
 refine C0 (c_Bu t hL) ?_
 refine C0 (c_B1 r (hr.mono (by decide))) ?_
 cases g1:r.ok
 ·have e:t.apply r=(t,false):=by rw [TabV.apply,g1]; rfl
  exact F1 e
 refine G0 ?_
 refine C0 (c_Bf t (ht.mono (by decide))) ?_
 cases g2:t.ok
 ·have e:t.apply r=(t,false):=by rw [TabV.apply,g1,g2]; rfl
  exact F1 e
 refine G0 ?_
 rcases kinds r.Kind with k | k | k | k
 all_goals
  try simp -implicitDefEqProofs (maxSteps:=1000000) only [go_sem,k]
  repeat refine ⟨sc,?_⟩
  try exact sf
 all_goals try (refine .of (c_Cg t.Rows r.R (by omega) hLr) ?_; simp -implicitDefEqProofs (maxSteps:=1000000) only [go_sem,take_all,take_marks])
 all_goals try (refine .of (c_Gn t.Rows r (by omega)) ?_; simp -implicitDefEqProofs (maxSteps:=1000000) only [go_sem,take_all,take_marks])
 all_goals cases w:decide (r.Who > 0)
 all_goals
  try simp -implicitDefEqProofs (maxSteps:=1000000) only [x_A1_1,go_sem,w,take_all,take_marks]
 all_goals try (refine .of (c_Cf t.Marks ⟨r.Who,r.Seq,r.Code⟩ (by omega)) ?_; simp -implicitDefEqProofs (maxSteps:=1000000) only [go_sem,take_all,take_marks])
 all_goals
  have tk:=c_Bf (t.change r) (hci.mono (by decide))
  simp only [TabV.change,TabV.put,k,w,cond_true,cond_false] at tk
  try simp -implicitDefEqProofs (maxSteps:=1000000) only [x_A1_2,go_sem,take_all,take_marks]
  refine .of tk ?_
  cases g3:(t.change r).ok
 all_goals
  have g4:=g3
  simp only [TabV.change,TabV.put,k,w,cond_true,cond_false] at g4
  try simp -implicitDefEqProofs (maxSteps:=1000000) only [go_sem,g4,take_all,take_marks]
 all_goals try (refine .of (c_Bu t hL) ?_; have e:t.apply r=(t,false):=(by rw [TabV.apply,g1,g2,g3]; rfl); simp -implicitDefEqProofs (maxSteps:=1000000) only [go_sem,e,take_all,take_marks])
 all_goals try (have e:t.apply r=(t.change r,true):=(by rw [TabV.apply,g1,g2,g3]; rfl); simp -implicitDefEqProofs (maxSteps:=1000000) only [go_sem,e,TabV.change,TabV.put,k,w,cond_true,cond_false,take_all,take_marks])
 all_goals try rfl
def x_Fe:FnX:=⟨35,[.tmp 4],
  .q [.v 2 0,.v 3 1,.F 4]
 (.q [.f 8 2 0,.f 9 8 4,.L 10 3 9,.f 11 3 1,.l 12 11,.c 13 78 [10,12],.m 7 13,.e 14 7 0,.e 15 7 1,.op 5 (.alloc [.i 0,.i 0,.i 0]),.s 100001 3 5 14,.m 6 15]
 (.q [.f 16 3 1,.l 17 16,.op 18 (.call 120 [0,0,0] [(.t 17),(.i 1),(.i 9)]),.N 19 18,.m 20 19,.z 20 (.f 21 3 3),.z 20 (.l 22 21),.z 20 (.B 23 .lss 22 1),.r 24 20 23,.m 25 24,.z 25 (.m 26 6),.z 25 (.m 27 26),.y 27 (.f 28 5 1),.y 27 (.l 29 28),.y 27 (.f 30 3 3),.y 27 (.l 31 30),.y 27 (.b 32 .gtr 29 31),.z 25 (.a 33 27 32),.r 34 25 33,.m 4 34]
 .ret))⟩
theorem r_Fe {Te:TE} (c_Db:C_Db Te) (c_Fo:C_Fo Te):C_Fe (RF Te x_Fe):=by
 intro n m hn hk
 have hs:win m.Seq 1 65535 = !decide (m.Seq < 1):=by
  simp only [Msg.ok,win,Bool.and_eq_true,decide_eq_true_eq] at hk
  by_cases g:m.Seq < 1
  ·rw [decide_eq_true g]
   simp only [win,Bool.and_eq_false_iff,decide_eq_false_iff_not,Bool.not_true]
   omega
  ·rw [decide_eq_false g]
   simp only [win,Bool.and_eq_true,decide_eq_true_eq,Bool.not_false]
   omega
 refine X0 x_Fe.eq_1 ?_
 refine C0 (c_Db n.S.T m.From (by have:=hn.2.2; omega)) ?_
 refine C0 (c_Fo _ _ _) ?_
 cases g1:win m.From 1 9
 ·have e:n.late m=true:=by rw [NodeV.late,g1]; rfl
  exact F1 e
 cases g2:decide (m.Seq < 1)
 rotate_left
 ·have e:n.late m=true:=by rw [NodeV.late,g1,hs,g2]; rfl
  exact F2 g2 e
 have e:n.late m=lateMark n m:=by rw [NodeV.late,g1,hs,g2]; rfl
 cases gm:markAt n.S.T.Marks m.From with
 | none =>
  have e2:lateMark n m=false:=by rw [lateMark,gm]
  exact F3 g2 e e2
 | some k =>
  have e2:lateMark n m=decide (k.Seq > m.Seq):=by rw [lateMark,gm]
  exact F3 g2 e e2
def x_Fj:FnX:=⟨34,[.cell 4 (some 10),.tmp 5,.tmp 6],
  .q [.v 2 0,.v 3 1,.op 4 (.alloc [.nils 1,.nils 2,.i 0,.F,.nils 7,.i 0,.nils 3,.i 0,.i 0,.i 0]),.i 5 0,.F 6]
 (.seq (.q [.f 7 3 0,.l 8 7,.B 9 .eql 8 3]
 (.c 9 (.q [.L 10 10 2,.f 11 3 1,.l 12 11,.f 13 3 3,.l 14 13,.f 15 3 4,.l 16 15,.f 17 3 5,.l 18 17,.c 19 33 [10,12,14,16,18],.e 20 19 0,.e 21 19 1,.e 22 19 2,.s 100001 10 4 20,.m 5 21,.m 6 22]
 .ret)))
 (.q [.L 23 10 2,.f 24 3 1,.l 25 24,.f 26 3 3,.l 27 26,.f 28 3 4,.l 29 28,.c 30 35 [23,25,27,29],.e 31 30 0,.e 32 30 1,.e 33 30 2,.s 100002 10 4 31,.m 5 32,.m 6 33]
 .ret))⟩
theorem r_Fj {Te:TE} (c_Dm:C_Dm Te) (c_Dg:C_Dg Te):C_Fj (RF Te x_Fj):=by
 intro n m hn hm
 refine X0 x_Fj.eq_1 ?_
 cases g:(m.Kind==3)
 ·have e:n.wrote m=n.del m.From m.Seq m.Key:=by rw [NodeV.wrote,g]; rfl
  refine G1 g ?_
  exact D1 (c_Dg n m.From m.Seq m.Key hn hm.1) e
 ·have e:n.wrote m=n.putIn m.From m.Seq m.Key m.Text:=by rw [NodeV.wrote,g]; rfl
  refine G1 g ?_
  exact D1 (c_Dm n m.From m.Seq m.Key m.Text hn hm.1 hm.2) e
def x_Fi:FnX:=⟨11,[.tmp 4,.tmp 5],
  .q [.v 2 0,.op 4 (.mv (.k (.one (.pv (.string ⟨#[]⟩))))),.i 5 0]
 (.q [.L 6 10 2,.m 7 1,.c 8 31 [6,7],.e 9 8 0,.e 10 8 1,.m 4 9,.m 5 10]
 .ret)⟩
theorem r_Fi {Te:TE} (c_Dh:C_Dh Te):C_Fi (RF Te x_Fi):=by
 intro n key h
 refine X0 x_Fi.eq_1 ?_
 exact D0 (c_Dh n key h)
def x_Fd:FnX:=⟨19,[.tmp 4],
  .q [.v 2 0,.v 3 1,.op 4 (.mv (.k (.one (.nils 8))))]
 (.q [.L 6 8 3,.op 7 (.call 163 [0,0] [(.t 6),(.i 2)]),.op 5 (.alloc [.i 0,.i 0,.i 0,.i 0,.e,.e,.i 0,.i 0]),.s 100001 8 5 7]
 (.q [.L 9 10 2,.f 10 3 4,.l 11 10,.c 12 164 [9,11],.m 8 12,.e 13 8 0,.e 14 8 1,.f 15 5 5,.s 100002 1 15 13,.f 16 5 7,.s 100003 1 16 14]
 (.q [.L 17 8 5,.op 18 (.bslice 8 [(.t 17)]),.m 4 18]
 .ret)))⟩
theorem r_Fd {Te:TE} (c_Fc:C_Fc Te) (c_Fi:C_Fi Te):C_Fd (RF Te x_Fd):=by
 intro n m hn
 refine X0 x_Fd.eq_1 ?_
 refine C0 (c_Fc m 2) ?_
 exact D0 (c_Fi n m.Key (hn.mono (by decide)))
def x_Fg:FnX:=⟨50,[.cell 4 (some 10),.tmp 5,.tmp 6],
  .q [.v 2 0,.v 3 1,.op 4 (.alloc [.nils 1,.nils 2,.i 0,.F,.nils 7,.i 0,.nils 3,.i 0,.i 0,.i 0]),.op 5 (.mv (.k (.one (.nils 8)))),.op 6 (.mv (.k (.one (.nils 6))))]
 (.q [.op 12 (.bslice 8 []),.m 7 12]
 (.seq (.q [.L 13 10 2,.L 14 8 3,.c 15 77 [13,14]]
 (.c 15 (.q [.L 16 10 2,.c 17 65 [16],.m 18 7,.op 19 (.bslice 6 []),.s 100001 10 4 17,.m 5 18,.m 6 19]
 .ret)))
 (.q [.L 21 10 2,.L 22 8 3,.c 23 79 [21,22],.m 20 23,.e 24 20 0,.e 25 20 1,.e 26 20 2,.op 8 (.alloc [.nils 1,.nils 2,.i 0,.F,.nils 7,.i 0,.nils 3,.i 0,.i 0,.i 0]),.s 100002 10 8 24,.m 9 25,.m 10 26]
 (.seq (.q [.f 27 8 0,.f 28 27 0,.f 29 28 3,.l 30 29]
 (.c 30 (.q [.L 31 10 8,.m 32 7,.op 33 (.bslice 6 []),.s 100003 10 4 31,.m 5 32,.m 6 33]
 .ret)))
 (.q [.L 34 8 3,.op 35 (.call 163 [0,0] [(.t 34),(.i 5)]),.op 11 (.alloc [.i 0,.i 0,.i 0,.i 0,.e,.e,.i 0,.i 0]),.s 100004 8 11 35]
 (.q [.m 36 9,.f 37 11 7,.s 100005 1 37 36]
 (.seq (.q [.m 38 10]
 (.c 38 (.seq (.draw [.L 39 10 8,.L 40 8 11,.op 41 (.bslice 8 [(.t 40)]),.L 42 8 3,.m 43 9,.c 44 80 [42,43],.op 45 (.bslice 6 [(.t 44)]),.s 100006 10 4 39,.m 5 41,.m 6 45] [[],[],[1],[],[],[3,4],[5],[0,5,0],[2,7,0,1,2,7],[6,8,0,1,2,3,4,5,6,7,8]])
 .ret)))
 (.seq (.draw [.L 46 10 8,.L 47 8 11,.op 48 (.bslice 8 [(.t 47)]),.op 49 (.bslice 6 []),.s 100007 10 4 46,.m 5 48,.m 6 49] [[],[],[1],[],[0,0],[2,4,0,1,2,4],[3,5,0,1,2,3,4,5]])
 .ret))))))))⟩
theorem r_Fg {Te:TE} (c_Fe:C_Fe Te) (c_F1:C_F1 Te) (c_Fj:C_Fj Te) (c_Fc:C_Fc Te) (c_Fa:C_Fa Te):C_Fg (RF Te x_Fg):=by
 intro n m hn hm hk h34
 have hL:=hn.len (by decide)
 refine X0 x_Fg.eq_1 ?_
 refine C0 (c_Fe n m hn hk) ?_
 cases g1:n.late m
 rotate_left
 ·have e:n.deskPut m (back m 0)=(n,[],[]):=by rw [NodeV.deskPut,g1]; rfl
  refine G0 ?_
  exact D1 (c_F1 n hL) e
 refine G0 ?_
 refine C0 (c_Fj n m hn hm) ?_
 cases g2:(n.wrote m).1.S.D.Down
 rotate_left
 ·have g3:(n.wrote m).2.2=false:=by
   cases g:(n.wrote m).2.2
   ·rfl
   ·rw [wrote_up g] at g2; cases g2
  have e:n.deskPut m (back m 0)=((n.wrote m).1,[],[]):=by rw [NodeV.deskPut,g1,g2,g3]; rfl
  try simp -implicitDefEqProofs (maxSteps:=1000000) only [go_sem,g2,e,take_all,take_marks,NodeV.enc,StoreV.enc,DevV.enc]
  repeat refine ⟨sc,?_⟩
  try exact sf
  try rfl
 refine G1 g2 ?_
 refine C0 (c_Fc m 5) ?_
 cases g3:(n.wrote m).2.2
 ·have e:n.deskPut m (back m 0)=((n.wrote m).1,[⟨5,m.To,m.From,m.Seq,⟨#[]⟩,⟨#[]⟩,0,(n.wrote m).2.1⟩],[]):=by rw [NodeV.deskPut,g1,g2,g3]; rfl
  try simp -implicitDefEqProofs (maxSteps:=1000000) only [go_sem,g3,e,g2,take_all,take_marks,NodeV.enc,StoreV.enc,DevV.enc]
  repeat refine ⟨sc,?_⟩
  try exact sf
  try rfl
 ·have e:n.deskPut m (back m 0)=((n.wrote m).1,[⟨5,m.To,m.From,m.Seq,⟨#[]⟩,⟨#[]⟩,0,(n.wrote m).2.1⟩],[actV m (n.wrote m).2.1]):=by rw [NodeV.deskPut,g1,g2,g3]; rfl
  refine G1 g3 ?_
  refine .of (c_Fa m (n.wrote m).2.1 h34) ?_
  try simp -implicitDefEqProofs (maxSteps:=1000000) only [go_sem,e,g2,take_all,take_marks,NodeV.enc,StoreV.enc,DevV.enc]
  repeat refine ⟨sc,?_⟩
  try exact sf
  try rfl
def x_D0:FnX:=⟨95,[.cell 4 (some 10),.tmp 5,.tmp 6],
  .q [.v 2 0,.v 3 1,.op 4 (.alloc [.nils 1,.nils 2,.i 0,.F,.nils 7,.i 0,.nils 3,.i 0,.i 0,.i 0]),.op 5 (.mv (.k (.one (.nils 8)))),.op 6 (.mv (.k (.one (.nils 6))))]
 (.q [.op 12 (.bslice 6 []),.m 7 12]
 (.seq (.q [.L 13 8 3,.c 14 63 [13],.N 15 14,.m 16 15,.z 16 (.f 17 3 2),.z 16 (.l 18 17),.z 16 (.B 19 .lss 18 3),.r 20 16 19,.m 21 20,.z 21 (.L 22 10 2),.z 21 (.c 23 64 [22]),.z 21 (.N 24 23),.r 25 21 24]
 (.c 25 (.q [.L 26 10 2,.c 27 65 [26],.op 28 (.bslice 8 []),.m 29 7,.s 100001 10 4 27,.m 5 28,.m 6 29]
 .ret)))
 (.seq (.block 0 (.q [.f 31 3 0,.l 32 31,.B 33 .eql 32 1,.m 30 33]
 (.cond 30 (.seq (.draw [.L 34 10 2,.c 35 65 [34],.L 36 10 2,.L 37 8 3,.c 38 66 [36,37],.m 39 7,.s 100002 10 4 35,.m 5 38,.m 6 39] [[],[0],[],[],[2,3,1],[],[1,4,0,1],[4,6,0,1,2,3,4,6],[5,7,0,1,2,3,4,5,6,7]])
 .ret) (.q [.f 41 3 0,.l 42 41,.B 43 .eql 42 3,.m 44 43,.z 44 (.f 45 3 0),.z 44 (.l 46 45),.z 44 (.B 47 .eql 46 4),.r 48 44 47,.m 40 48]
 (.cond 40 (.q [.L 49 10 2,.L 50 8 3,.c 51 67 [49,50],.e 52 51 0,.e 53 51 1,.e 54 51 2,.s 100003 10 4 52,.m 5 53,.m 6 54]
 .ret) (.q [.f 56 3 0,.l 57 56,.B 58 .eql 57 6,.m 59 58,.y 59 (.f 60 3 1),.y 59 (.l 61 60),.y 59 (.B 62 .eql 61 0),.a 63 59 62,.m 55 63]
 (.cond 55 (.q [.L 65 10 2,.L 66 8 3,.c 67 68 [65,66],.m 64 67,.e 68 64 0,.e 69 64 1,.op 8 (.alloc [.nils 1,.nils 2,.i 0,.F,.nils 7,.i 0,.nils 3,.i 0,.i 0,.i 0]),.s 100004 10 8 68,.m 9 69]
 (.q [.L 70 10 8,.m 71 9,.m 72 7,.s 100005 10 4 70,.m 5 71,.m 6 72]
 .ret)) (.q [.f 74 3 0,.l 75 74,.B 76 .eql 75 8,.m 77 76,.y 77 (.f 78 3 1),.y 77 (.l 79 78),.y 77 (.B 80 .eql 79 0),.a 81 77 80,.m 73 81]
 (.c 73 (.q [.L 83 10 2,.L 84 8 3,.c 85 69 [83,84],.m 82 85,.e 86 82 0,.e 87 82 1,.op 10 (.alloc [.nils 1,.nils 2,.i 0,.F,.nils 7,.i 0,.nils 3,.i 0,.i 0,.i 0]),.s 100006 10 10 86,.m 11 87]
 (.q [.L 88 10 10,.m 89 11,.m 90 7,.s 100007 10 4 88,.m 5 89,.m 6 90]
 .ret)))))))))))
 (.q [.L 91 10 2,.c 92 65 [91],.op 93 (.bslice 8 []),.m 94 7,.s 100008 10 4 92,.m 5 93,.m 6 94]
 .ret))))⟩
theorem r_D0 {Te:TE} (c_Dd:C_Dd Te) (c_F7:C_F7 Te) (c_F1:C_F1 Te) (c_Fd:C_Fd Te) (c_Fg:C_Fg Te) (c_Ff:C_Ff Te) (c_Fh:C_Fh Te):C_D0 (RF Te x_D0):=by
 intro n m hn hm
 have hL:=hn.len (by decide)
 have hc:=c_F1 n hL
 refine X0 x_D0.eq_1 ?_
 refine C0 (c_Dd m) ?_
 cases g0:m.ok
 ·have e:n.desk m=(n,[],[]):=by rw [NodeV.desk,g0]; rfl
  refine G0 ?_
  exact D1 (hc) e
 have ht:win m.To 3 4 = !decide (m.To < 3):=by
  simp only [Msg.ok,win,Bool.and_eq_true,decide_eq_true_eq] at g0
  by_cases g:m.To < 3
  ·rw [decide_eq_true g]
   simp only [win,Bool.and_eq_false_iff,decide_eq_false_iff_not,Bool.not_true]
   omega
  ·rw [decide_eq_false g]
   simp only [win,Bool.and_eq_true,decide_eq_true_eq,Bool.not_false]
   omega
 cases gt:decide (m.To < 3)
 rotate_left
 ·have e:n.desk m=(n,[],[]):=by rw [NodeV.desk,g0,ht,gt]; rfl
  refine G1 gt ?_
  exact D1 (hc) e
 refine G1 gt ?_
 refine C0 (c_F7 n (hn.mono (by decide))) ?_
 cases gu:n.up
 ·have e:n.desk m=(n,[],[]):=by rw [NodeV.desk,g0,ht,gt,gu]; rfl
  refine G0 ?_
  exact D1 (hc) e
 have g:(m.ok&&win m.To 3 4&&n.up)=true:=by rw [g0,ht,gt,gu]; rfl
 refine G0 ?_
 cases k1:(m.Kind==1)
 rotate_left
 ·have e:n.desk m=(n,[⟨2,m.To,m.From,m.Seq,⟨#[]⟩,(n.get m.Key).1,0,(n.get m.Key).2⟩],[]):=by rw [NodeV.desk,g,k1]; rfl
  refine G1 k1 ?_
  refine C0 (hc) ?_
  exact D1 (c_Fd n m hn) e
 cases k3:(m.Kind==3)
 rotate_left
 ·have e:n.desk m=n.deskPut m (back m 0):=by rw [NodeV.desk,g,k1,k3]; rfl
  refine G2 k1 k3 ?_
  exact D1 (c_Fg n m hn hm g0 (.inl (eq_of_beq k3))) e
 cases k4:(m.Kind==4)
 rotate_left
 ·have e:n.desk m=n.deskPut m (back m 0):=by rw [NodeV.desk,g,k1,k3,k4]; rfl
  refine G3 k1 k3 k4 ?_
  exact D1 (c_Fg n m hn hm g0 (.inr (eq_of_beq k4))) e
 cases f0:(m.From==0)
 ·have e:n.desk m=(n,[],[]):=by rw [NodeV.desk,g,k1,k3,k4,f0]; rfl
  cases k6:(m.Kind==6) <;> cases k8:(m.Kind==8)
  all_goals
   try simp -implicitDefEqProofs (maxSteps:=1000000) only [go_sem,k1,k3,k4,k6,k8,f0]
   repeat refine ⟨sc,?_⟩
   try exact sf
   refine .of (hc) ?_
   try simp -implicitDefEqProofs (maxSteps:=1000000) only [go_sem,e,take_all,take_marks]
   repeat refine ⟨sc,?_⟩
   try exact sf
   try rfl
 cases k6:(m.Kind==6)
 rotate_left
 ·have e:n.desk m=((n.deskPhase m).1,(n.deskPhase m).2,[]):=by rw [NodeV.desk,g,k1,k3,k4,f0,k6]; rfl
  try simp -implicitDefEqProofs (maxSteps:=1000000) only [go_sem,k1,k3,k4,k6,f0]
  repeat refine ⟨sc,?_⟩
  try exact sf
  exact D1 (c_Ff n m hn) e
 cases k8:(m.Kind==8)
 ·have e:n.desk m=(n,[],[]):=by rw [NodeV.desk,g,k1,k3,k4,f0,k6,k8]; rfl
  try simp -implicitDefEqProofs (maxSteps:=1000000) only [go_sem,k1,k3,k4,k6,k8,f0]
  repeat refine ⟨sc,?_⟩
  try exact sf
  exact D1 (hc) e
 cases kN:(m.N==n.S.T.Phase)
 ·have e:n.desk m=(n,[],[]):=by rw [NodeV.desk,g,k1,k3,k4,f0,k6,k8,kN]; rfl
  have e2:n.deskStep0 m=(n,[]):=by rw [NodeV.deskStep0,kN]; rfl
  try simp -implicitDefEqProofs (maxSteps:=1000000) only [go_sem,k1,k3,k4,k6,k8,f0]
  repeat refine ⟨sc,?_⟩
  try exact sf
  exact D2 (c_Fh n m hn) e e2
 ·have e:n.desk m=((n.deskStep m).1,(n.deskStep m).2,[]):=by rw [NodeV.desk,g,k1,k3,k4,f0,k6,k8,kN]; rfl
  have e2:n.deskStep0 m=n.deskStep m:=by rw [NodeV.deskStep0,kN]; rfl
  try simp -implicitDefEqProofs (maxSteps:=1000000) only [go_sem,k1,k3,k4,k6,k8,f0]
  repeat refine ⟨sc,?_⟩
  try exact sf
  exact D2 (c_Fh n m hn) e e2
def x_Fb:FnX:=⟨56,[.cell 2 (some 10),.cell 3 (some 8)],
  .q [.op 2 (.alloc [.nils 1,.nils 2,.i 0,.F,.nils 7,.i 0,.nils 3,.i 0,.i 0,.i 0]),.op 3 (.alloc [.i 0,.i 0,.i 0,.i 0,.e,.e,.i 0,.i 0])]
 (.q [.m 6 0,.op 7 (.call 92 [5,0] [(.t 6),(.i 10)]),.op 4 (.alloc [.nils 1,.nils 2,.i 0,.F,.nils 7,.i 0,.nils 3,.i 0,.i 0,.i 0]),.s 100001 10 4 7]
 (.q [.m 8 0,.op 9 (.call 156 [5] [(.t 8)]),.op 5 (.alloc [.i 0,.i 0,.i 0,.i 0,.e,.e,.i 0,.i 0]),.s 100002 8 5 9]
 (.seq (.q [.f 10 5 2,.l 11 10,.B 12 .lss 11 3,.m 13 12,.y 13 (.m 14 0),.y 13 (.op 15 (.call 94 [5,0] [(.t 14),(.i 4)])),.y 13 (.N 16 15),.a 17 13 16]
 (.c 17 (.q [.f 18 5 0,⟨none,none,100003,.store 1 (.t 18) (.i 3)⟩]
 (.q [.f 19 5 1,⟨none,none,100004,.store 1 (.t 19) (.i 1)⟩]
 (.reg [.f 20 5 2,⟨none,none,100005,.store 1 (.t 20) (.i 3)⟩])))))
 (.seq (.q [.f 21 5 0,.l 22 21,.B 23 .eql 22 8,.m 24 23,.z 24 (.f 25 5 0),.z 24 (.l 26 25),.z 24 (.B 27 .eql 26 6),.r 28 24 27]
 (.c 28 (.q [.m 29 0,.f 30 4 0,.f 31 30 4,.f 32 31 1,.l 33 32,.f 34 4 0,.f 35 34 4,.f 36 35 1,.l 37 36,.f 38 4 0,.f 39 38 4,.f 40 39 1,.l 41 40,.B 42 .add 41 1,.op 43 (.bslice 1 [(.t 33),(.t 37),(.t 42),(.i 2)]),.op 44 (.call 70 [5,1] [(.t 29),(.t 43)]),.f 45 5 6,.s 100006 1 45 44]
 (.q [.f 46 5 6,.l 47 46,.B 48 .lss 47 0]
 (.c 48 (.reg [.f 49 5 6,⟨none,none,100007,.store 1 (.t 49) (.i 0)⟩]))))))
 (.seq (.q [.m 50 0,.op 51 (.call 94 [5,0] [(.t 50),(.i 10)])]
 (.c 51 (.reg [.m 52 0,.op 53 (.call 157 [5] [(.t 52)]),.s 100008 8 5 53])))
 (.seq (.draw [.L 54 10 4,.L 55 8 5,.s 100009 10 2 54,.s 100010 8 3 55] [[],[],[0,0],[1,2,0,1,2]])
 .ret))))))⟩
theorem r_Fb {Te:TE} (c_F0:C_F0 Te) (c_F9:C_F9 Te) (c_Ft:C_Ft Te) (c_Fp:C_Fp Te) (c_F8:C_F8 Te):∀ (c:CurV) (hc:c.ok),∃ r0,(∃ (n:NodeV) (m:Msg) (d:CurV),((n.In (2 ^ 20)∧n.S.far30)∧msgS m∧d.ok)∧r0=(⟨[.agg (n.enc true),.agg m.row],[d.enc]⟩:Res))∧RunFn Te x_Fb [.ptr c.enc] r0:=by
 intro c hc
 refine some_of (Nat.le_of_ble_eq_true rfl) (by rfl) ?_
 simp -implicitDefEqProofs (maxSteps:=1000000) only [x_Fb,go_sem]
 repeat refine ⟨sc,?_⟩
 try exact sf
 obtain ⟨n,d,⟨⟨hn,hf⟩,hd⟩,ht⟩:=c_F0 c 10 hc (by decide)
 refine C0 (ht) ?_
 obtain ⟨m,d,⟨⟨hk,htx⟩,hd⟩,ht⟩:=c_F9 d hd
 cases gT:decide (m.To < 3)
 ·cases g8:m.Kind==8
  ·cases g6:m.Kind==6
   ·refine C3 (ht) gT g8 g6 ?_
    obtain ⟨p,d,hd,ht9⟩:=c_Ft d 10 hd
    cases p
    ·refine C0 (ht9) ?_
     exact ⟨n,m,d,⟨⟨hn,hf⟩,⟨hk,htx⟩,hd⟩,rfl⟩
    ·obtain ⟨m2,d,⟨hm2,hd⟩,ht10⟩:=c_F8 d hd
     refine C0 (ht9) ?_
     refine C0 (ht10) ?_
     exact ⟨n,m2,d,⟨⟨hn,hf⟩,hm2,hd⟩,rfl⟩
   ·skip
    obtain ⟨v,d,⟨_,hd⟩,ht2⟩:=c_Fp d [n.S.T.Phase,n.S.T.Phase,IntKind.i64.wrap (n.S.T.Phase + 1),2] hd (by simp)
    cases gN:decide (v < 0)
    ·refine C3 (ht) gT g8 g6 ?_
     refine C1 (ht2) gN ?_
     obtain ⟨p,d,hd,ht9⟩:=c_Ft d 10 hd
     cases p
     ·refine C0 (ht9) ?_
      exact ⟨n,⟨m.Kind,m.From,m.To,m.Seq,m.Key,m.Text,v,m.Code⟩,d,⟨⟨hn,hf⟩,⟨hk,htx⟩,hd⟩,rfl⟩
     ·obtain ⟨m2,d,⟨hm2,hd⟩,ht10⟩:=c_F8 d hd
      refine C0 (ht9) ?_
      refine C0 (ht10) ?_
      exact ⟨n,m2,d,⟨⟨hn,hf⟩,hm2,hd⟩,rfl⟩
    ·refine C3 (ht) gT g8 g6 ?_
     refine C1 (ht2) gN ?_
     obtain ⟨p,d,hd,ht9⟩:=c_Ft d 10 hd
     cases p
     ·refine C0 (ht9) ?_
      exact ⟨n,⟨m.Kind,m.From,m.To,m.Seq,m.Key,m.Text,0,m.Code⟩,d,⟨⟨hn,hf⟩,⟨hk,htx⟩,hd⟩,rfl⟩
     ·obtain ⟨m2,d,⟨hm2,hd⟩,ht10⟩:=c_F8 d hd
      refine C0 (ht9) ?_
      refine C0 (ht10) ?_
      exact ⟨n,m2,d,⟨⟨hn,hf⟩,hm2,hd⟩,rfl⟩
  ·skip
   obtain ⟨v,d,⟨_,hd⟩,ht2⟩:=c_Fp d [n.S.T.Phase,n.S.T.Phase,IntKind.i64.wrap (n.S.T.Phase + 1),2] hd (by simp)
   cases gN:decide (v < 0)
   ·refine C2 (ht) gT g8 ?_
    refine C1 (ht2) gN ?_
    obtain ⟨p,d,hd,ht9⟩:=c_Ft d 10 hd
    cases p
    ·refine C0 (ht9) ?_
     exact ⟨n,⟨m.Kind,m.From,m.To,m.Seq,m.Key,m.Text,v,m.Code⟩,d,⟨⟨hn,hf⟩,⟨hk,htx⟩,hd⟩,rfl⟩
    ·obtain ⟨m2,d,⟨hm2,hd⟩,ht10⟩:=c_F8 d hd
     refine C0 (ht9) ?_
     refine C0 (ht10) ?_
     exact ⟨n,m2,d,⟨⟨hn,hf⟩,hm2,hd⟩,rfl⟩
   ·refine C2 (ht) gT g8 ?_
    refine C1 (ht2) gN ?_
    obtain ⟨p,d,hd,ht9⟩:=c_Ft d 10 hd
    cases p
    ·refine C0 (ht9) ?_
     exact ⟨n,⟨m.Kind,m.From,m.To,m.Seq,m.Key,m.Text,0,m.Code⟩,d,⟨⟨hn,hf⟩,⟨hk,htx⟩,hd⟩,rfl⟩
    ·obtain ⟨m2,d,⟨hm2,hd⟩,ht10⟩:=c_F8 d hd
     refine C0 (ht9) ?_
     refine C0 (ht10) ?_
     exact ⟨n,m2,d,⟨⟨hn,hf⟩,hm2,hd⟩,rfl⟩
 ·obtain ⟨b,d,hd,ht1⟩:=c_Ft d 4 hd
  cases b
  ·refine C1 (ht) gT ?_
   refine C0 (ht1) ?_
   obtain ⟨p,d,hd,ht9⟩:=c_Ft d 10 hd
   cases p
   ·refine C0 (ht9) ?_
    exact ⟨n,⟨3,1,3,m.Seq,m.Key,m.Text,m.N,m.Code⟩,d,⟨⟨hn,hf⟩,⟨hk,htx⟩,hd⟩,rfl⟩
   ·obtain ⟨m2,d,⟨hm2,hd⟩,ht10⟩:=c_F8 d hd
    refine C0 (ht9) ?_
    refine C0 (ht10) ?_
    exact ⟨n,m2,d,⟨⟨hn,hf⟩,hm2,hd⟩,rfl⟩
  ·cases g8:m.Kind==8
   ·cases g6:m.Kind==6
    ·refine C1 (ht) gT ?_
     refine C2 (ht1) g8 g6 ?_
     obtain ⟨p,d,hd,ht9⟩:=c_Ft d 10 hd
     cases p
     ·refine C0 (ht9) ?_
      exact ⟨n,m,d,⟨⟨hn,hf⟩,⟨hk,htx⟩,hd⟩,rfl⟩
     ·obtain ⟨m2,d,⟨hm2,hd⟩,ht10⟩:=c_F8 d hd
      refine C0 (ht9) ?_
      refine C0 (ht10) ?_
      exact ⟨n,m2,d,⟨⟨hn,hf⟩,hm2,hd⟩,rfl⟩
    ·skip
     obtain ⟨v,d,⟨_,hd⟩,ht2⟩:=c_Fp d [n.S.T.Phase,n.S.T.Phase,IntKind.i64.wrap (n.S.T.Phase + 1),2] hd (by simp)
     cases gN:decide (v < 0)
     ·refine C1 (ht) gT ?_
      refine C2 (ht1) g8 g6 ?_
      refine C1 (ht2) gN ?_
      obtain ⟨p,d,hd,ht9⟩:=c_Ft d 10 hd
      cases p
      ·refine C0 (ht9) ?_
       exact ⟨n,⟨m.Kind,m.From,m.To,m.Seq,m.Key,m.Text,v,m.Code⟩,d,⟨⟨hn,hf⟩,⟨hk,htx⟩,hd⟩,rfl⟩
      ·obtain ⟨m2,d,⟨hm2,hd⟩,ht10⟩:=c_F8 d hd
       refine C0 (ht9) ?_
       refine C0 (ht10) ?_
       exact ⟨n,m2,d,⟨⟨hn,hf⟩,hm2,hd⟩,rfl⟩
     ·refine C1 (ht) gT ?_
      refine C2 (ht1) g8 g6 ?_
      refine C1 (ht2) gN ?_
      obtain ⟨p,d,hd,ht9⟩:=c_Ft d 10 hd
      cases p
      ·refine C0 (ht9) ?_
       exact ⟨n,⟨m.Kind,m.From,m.To,m.Seq,m.Key,m.Text,0,m.Code⟩,d,⟨⟨hn,hf⟩,⟨hk,htx⟩,hd⟩,rfl⟩
      ·obtain ⟨m2,d,⟨hm2,hd⟩,ht10⟩:=c_F8 d hd
       refine C0 (ht9) ?_
       refine C0 (ht10) ?_
       exact ⟨n,m2,d,⟨⟨hn,hf⟩,hm2,hd⟩,rfl⟩
   ·skip
    obtain ⟨v,d,⟨_,hd⟩,ht2⟩:=c_Fp d [n.S.T.Phase,n.S.T.Phase,IntKind.i64.wrap (n.S.T.Phase + 1),2] hd (by simp)
    cases gN:decide (v < 0)
    ·refine C1 (ht) gT ?_
     refine C1 (ht1) g8 ?_
     refine C1 (ht2) gN ?_
     obtain ⟨p,d,hd,ht9⟩:=c_Ft d 10 hd
     cases p
     ·refine C0 (ht9) ?_
      exact ⟨n,⟨m.Kind,m.From,m.To,m.Seq,m.Key,m.Text,v,m.Code⟩,d,⟨⟨hn,hf⟩,⟨hk,htx⟩,hd⟩,rfl⟩
     ·obtain ⟨m2,d,⟨hm2,hd⟩,ht10⟩:=c_F8 d hd
      refine C0 (ht9) ?_
      refine C0 (ht10) ?_
      exact ⟨n,m2,d,⟨⟨hn,hf⟩,hm2,hd⟩,rfl⟩
    ·refine C1 (ht) gT ?_
     refine C1 (ht1) g8 ?_
     refine C1 (ht2) gN ?_
     obtain ⟨p,d,hd,ht9⟩:=c_Ft d 10 hd
     cases p
     ·refine C0 (ht9) ?_
      exact ⟨n,⟨m.Kind,m.From,m.To,m.Seq,m.Key,m.Text,0,m.Code⟩,d,⟨⟨hn,hf⟩,⟨hk,htx⟩,hd⟩,rfl⟩
     ·obtain ⟨m2,d,⟨hm2,hd⟩,ht10⟩:=c_F8 d hd
      refine C0 (ht9) ?_
      refine C0 (ht10) ?_
      exact ⟨n,m2,d,⟨⟨hn,hf⟩,hm2,hd⟩,rfl⟩
def x_Aw:FnX:=⟨68,[.tmp 6],
  .q [.v 5 2,.op 6 (.mv (.k (.one (.nils 1))))]
 (.seq (.q [.L 8 13 5,.c 9 306 [8],.N 10 9,.m 11 10,.z 11 (.m 12 0),.z 11 (.c 13 247 [12]),.z 11 (.N 14 13),.r 15 11 14,.m 16 15,.z 16 (.m 17 1),.z 16 (.c 18 247 [17]),.z 16 (.N 19 18),.r 20 16 19]
 (.c 20 (.q [.op 6 (.mv (.k (.one (.nils 1))))]
 .ret)))
 (.seq (.draw [.m 21 0,.op 22 (.call 312 [0,0] [(.k (.one (.nils 1))),(.t 21)]),.m 23 1,.c 24 312 [22,23],.f 25 5 0,.l 26 25,.op 27 (.conv (.int .u8) (.t 26)),.op 28 (.bslice 1 [(.t 27)]),.op 29 (.app 1 1 (.t 24) (.t 28)),.m 7 29] [[],[0],[],[1,2,1],[],[4],[5],[6],[3,7,3],[8,8,0,1,2,3,4,5,6,7,8]])
 (.seq (.q [.f 30 5 0,.l 31 30]
 (.block 0 (.q [.B 33 .eql 31 1,.m 32 33]
 (.cond 32 (.reg [.m 34 7,.f 35 5 1,.L 36 7 35,.c 37 313 [34,36],.m 7 37]) (.q [.B 39 .eql 31 2,.m 38 39]
 (.cond 38 (.reg [.m 40 7,.f 41 5 8,.l 42 41,.c 43 314 [40,42],.m 7 43]) (.q [.B 45 .eql 31 3,.m 44 45]
 (.c 44 (.reg [.m 46 7,.f 47 5 9,.l 48 47,.op 49 (.conv (.int .u8) (.t 48)),.op 50 (.bslice 1 [(.t 49)]),.op 51 (.app 1 1 (.t 46) (.t 50)),.m 7 51])))))))))
 (.seq (.draw [.m 52 7,.f 53 5 10,.l 54 53,.op 55 (.conv (.int .u8) (.t 54)),.f 56 5 12,.l 57 56,.op 58 (.conv (.int .u8) (.t 57)),.op 59 (.bslice 1 [(.t 55),(.t 58)]),.op 60 (.app 1 1 (.t 52) (.t 59)),.f 61 5 11,.l 62 61,.c 63 312 [60,62],.m 7 63] [[],[],[1],[2],[],[4],[5],[3,6],[0,7],[],[9],[8,10,8],[11,11,0,1,2,3,4,5,6,7,8,9,10,11]])
 (.q [.m 64 7,.m 65 7,.c 66 315 [65],.c 67 312 [64,66],.m 6 67]
 .ret)))))⟩
theorem r_Aw {Te:TE} (c_B1:C_B1 Te) (c_C0:C_C0 Te) (c_B0:C_B0 Te) (c_Ax:C_Ax Te) (c_Az:C_Az Te) (c_Be:C_Be Te):C_Aw (RF Te x_Aw):=by
 intro gen place r h
 have h1:=h.1
 have h2:=h.2
 refine X0 x_Aw.eq_1 ?_
 refine C0 (c_B1 r h) ?_
 cases g1:r.ok
 ·have e:=recNo1 (gen:=gen) (place:=place) g1
  exact F1 e
 refine G0 ?_
 refine C0 (c_C0 _) ?_
 cases g2:win gen 0 65535
 ·have e:=recNo2 (place:=place) (r:=r) g2
  exact F1 e
 refine G0 ?_
 refine C0 (c_C0 _) ?_
 cases g3:win place 0 65535
 ·have e:=recNo3 (gen:=gen) (r:=r) g3
  exact F1 e
 refine G0 ?_
 have ey:=recYes g1 g2 g3
 have lw:(putW (putW [] gen) place).length=4:=by rw [putW_len,putW_len]; rfl
 have t1:=c_B0 [] gen (by show 0≤2 ^ 30; decide)
 refine C0 (t1) ?_
 refine .of (c_B0 (putW [] gen) place (by rw [putW_len]; show 0 + 2≤2 ^ 30; decide)) ?_
 try simp -implicitDefEqProofs (maxSteps:=1000000) only [go_sem,mkU_wrap,app1B,take1B]
 repeat refine ⟨sc,?_⟩
 try exact sf
 have e1:putW (putW [] gen) place++[mkU r.Kind]=recHead gen place r:=rfl
 have e2:(putW (putW [] gen) place).length + 1=(recHead gen place r).length:=by rw [recHead,List.length_append]; rfl
 simp only [e1,e2]
 have l0:=recHead_len gen place r
 generalize eH:recHead gen place r=H at l0 ⊢
 by_cases q1:r.Kind=1
 ·have k1:(r.Kind==1)=true:=by rw [q1]; rfl
  refine G1 k1 ?_
  refine C0 (c_Ax H r.R (by omega) h1) ?_
  have e3:putRow H r.R=recKind H r:=(if_pos q1).symm
  have l3:=recKind_len H r
  try simp -implicitDefEqProofs (maxSteps:=1000000) only [go_sem,e3,mkU_wrap,app2B,take2B]
  repeat refine ⟨sc,?_⟩
  try exact sf
  have tt:=c_B0 (recKind H r++[mkU r.Who,mkU r.Code]) r.Seq (by rw [List.length_append]; simp only [List.length_cons,List.length_nil]; omega)
  have e4:putW (recKind H r++[mkU r.Who,mkU r.Code]) r.Seq=recBody gen place r:=by rw [recBody,eH]
  rw [e4] at tt
  refine C0 (tt) ?_
  have l4:=recBody_len gen place r
  refine C0 (c_Be (recBody gen place r) (by omega)) ?_
  refine .of (c_B0 (recBody gen place r) _ (by omega)) ?_
  try simp -implicitDefEqProofs (maxSteps:=1000000) only [go_sem,ey]
  repeat refine ⟨sc,?_⟩
  try exact sf
 by_cases q2:r.Kind=2
 ·have k1:(r.Kind==1)=false:=by rw [q2]; rfl
  have k2:(r.Kind==2)=true:=by rw [q2]; rfl
  refine G2 k1 k2 ?_
  refine C0 (c_Az H r.Key (by omega) h2) ?_
  have e3:putText H r.Key=recKind H r:=by rw [recKind,if_neg q1,if_pos q2]
  have l3:=recKind_len H r
  try simp -implicitDefEqProofs (maxSteps:=1000000) only [go_sem,e3,mkU_wrap,app2B,take2B]
  repeat refine ⟨sc,?_⟩
  try exact sf
  have tt:=c_B0 (recKind H r++[mkU r.Who,mkU r.Code]) r.Seq (by rw [List.length_append]; simp only [List.length_cons,List.length_nil]; omega)
  have e4:putW (recKind H r++[mkU r.Who,mkU r.Code]) r.Seq=recBody gen place r:=by rw [recBody,eH]
  rw [e4] at tt
  refine C0 (tt) ?_
  have l4:=recBody_len gen place r
  refine C0 (c_Be (recBody gen place r) (by omega)) ?_
  refine .of (c_B0 (recBody gen place r) _ (by omega)) ?_
  try simp -implicitDefEqProofs (maxSteps:=1000000) only [go_sem,ey]
  repeat refine ⟨sc,?_⟩
  try exact sf
 by_cases q3:r.Kind=3
 ·have k1:(r.Kind==1)=false:=by rw [q3]; rfl
  have k2:(r.Kind==2)=false:=by rw [q3]; rfl
  have k3:(r.Kind==3)=true:=by rw [q3]; rfl
  have e3:H++[mkU r.N]=recKind H r:=by rw [recKind,if_neg q1,if_neg q2,if_pos q3]
  have e5:H.length + 1=(recKind H r).length:=by rw [← e3,List.length_append]; rfl
  have l3:=recKind_len H r
  try simp -implicitDefEqProofs (maxSteps:=1000000) only [go_sem,k1,k2,k3,mkU_wrap,app1B,e3,e5,take_rows]
  repeat refine ⟨sc,?_⟩
  try exact sf
  try simp -implicitDefEqProofs (maxSteps:=1000000) only [go_sem,e3,mkU_wrap,app2B,take2B]
  repeat refine ⟨sc,?_⟩
  try exact sf
  have tt:=c_B0 (recKind H r++[mkU r.Who,mkU r.Code]) r.Seq (by rw [List.length_append]; simp only [List.length_cons,List.length_nil]; omega)
  have e4:putW (recKind H r++[mkU r.Who,mkU r.Code]) r.Seq=recBody gen place r:=by rw [recBody,eH]
  rw [e4] at tt
  refine C0 (tt) ?_
  have l4:=recBody_len gen place r
  refine C0 (c_Be (recBody gen place r) (by omega)) ?_
  refine .of (c_B0 (recBody gen place r) _ (by omega)) ?_
  try simp -implicitDefEqProofs (maxSteps:=1000000) only [go_sem,ey]
  repeat refine ⟨sc,?_⟩
  try exact sf
 obtain ⟨k1,k2,k3⟩:=other3 q1 q2 q3
 refine G3 k1 k2 k3 ?_
 have e3:recKind H r=H:=by rw [recKind,if_neg q1,if_neg q2,if_neg q3]
 try simp -implicitDefEqProofs (maxSteps:=1000000) only [go_sem,mkU_wrap,app2B,take2B]
 repeat refine ⟨sc,?_⟩
 try exact sf
 have tt:=c_B0 (H++[mkU r.Who,mkU r.Code]) r.Seq (by rw [List.length_append]; simp only [List.length_cons,List.length_nil]; omega)
 have e4:putW (H++[mkU r.Who,mkU r.Code]) r.Seq=recBody gen place r:=by rw [recBody,eH,e3]
 rw [e4] at tt
 refine C0 (tt) ?_
 have l4:=recBody_len gen place r
 refine C0 (c_Be (recBody gen place r) (by omega)) ?_
 refine .of (c_B0 (recBody gen place r) _ (by omega)) ?_
 try simp -implicitDefEqProofs (maxSteps:=1000000) only [go_sem,ey]
 repeat refine ⟨sc,?_⟩
 try exact sf
def x_G1:FnX:=⟨28,[.tmp 2],
  .q [.i 2 0]
 (.q [.op 4 (.bslice 1 [(.i 1102),(.i 1072),(.i 1073),(.i 1094),(.i 1076),(.i 1077),(.i 1092),(.i 1075),(.i 1093),(.i 1080),(.i 1081),(.i 1082),(.i 1083),(.i 1084),(.i 1085),(.i 1086),(.i 1087),(.i 1103),(.i 1088),(.i 1089),(.i 1090),(.i 1091),(.i 1078),(.i 1074),(.i 1100),(.i 1099),(.i 1079),(.i 1096),(.i 1101),(.i 1097),(.i 1095),(.i 1098)]),.m 3 4]
 (.seq (.block 0 (.q [.m 6 0,.B 7 .geq 6 224,.m 5 7]
 (.cond 5 (.q [.m 8 3,.m 9 0,.B 10 .sub 9 224,.x 11 1 8 10,.l 12 11,.B 13 .sub 12 32,.m 2 13]
 .ret) (.q [.m 15 0,.B 16 .geq 15 192,.m 14 16]
 (.cond 14 (.q [.m 17 3,.m 18 0,.B 19 .sub 18 192,.x 20 1 17 19,.l 21 20,.m 2 21]
 .ret) (.q [.m 23 0,.B 24 .eql 23 163,.m 22 24]
 (.cond 22 (.q [.i 2 1105]
 .ret) (.q [.m 26 0,.B 27 .eql 26 179,.m 25 27]
 (.c 25 (.q [.i 2 1025]
 .ret))))))))))
 (.q [.i 2 (-1)]
 .ret)))⟩
theorem r_G1 {Te:TE}:C_G1 (RF Te x_G1):=by
 intro b hb
 refine run0 ?_
 cases g1:decide (b≥224)
 ·cases g2:decide (b≥192)
  ·cases g3:(b==163)
   ·cases g4:(b==179)
    ·simp -implicitDefEqProofs only [x_G1,go_sem,koi,g1,g2,g3,g4]
     repeat refine ⟨sc,?_⟩
     try exact sf
    ·simp -implicitDefEqProofs only [x_G1,go_sem,koi,g1,g2,g3,g4]
     repeat refine ⟨sc,?_⟩
     try exact sf
   ·simp -implicitDefEqProofs only [x_G1,go_sem,koi,g1,g2,g3]
    repeat refine ⟨sc,?_⟩
    try exact sf
  ·simp only [decide_eq_true_eq] at g2
   have e:IntKind.i64.wrap (b - 192)=b - 192:=IntWalk.i64_in _ (by omega)
   simp only [decide_eq_false_iff_not] at g1
   have hk:(b - 192).toNat < 32:=by omega
   have q1:=decide_eq_false g1
   have q2:=decide_eq_true g2
   simp -implicitDefEqProofs only [x_G1,go_sem,koi,q1,q2,e,Nat.mul_one,List.getD_eq_getElem?_getD]
   repeat refine ⟨sc,?_⟩
   try exact sf
   try simp -implicitDefEqProofs only [go_sem,koi_row hk,q1,q2]
   repeat refine ⟨sc,?_⟩
   try exact sf
   try simp only [List.getD_eq_getElem?_getD]
 ·simp only [decide_eq_true_eq] at g1
  have e:IntKind.i64.wrap (b - 224)=b - 224:=IntWalk.i64_in _ (by omega)
  have hk:(b - 224).toNat < 32:=by omega
  have q1:=decide_eq_true g1
  have hv:=koi_in ⟨(b - 224).toNat,hk⟩
  have e2:IntKind.i64.wrap (koiL.getD (b - 224).toNat 0 - 32)=koiL.getD (b - 224).toNat 0 - 32:=IntWalk.i64_in _ (by simp only at hv; omega)
  simp -implicitDefEqProofs only [x_G1,go_sem,koi,q1,e,Nat.mul_one,List.getD_eq_getElem?_getD]
  repeat refine ⟨sc,?_⟩
  try exact sf
  try simp -implicitDefEqProofs only [go_sem,koi_row hk,q1,e2]
  repeat refine ⟨sc,?_⟩
  try exact sf
  try simp only [List.getD_eq_getElem?_getD]
def x_Ce:FnX:=⟨12,[.tmp 2],
  .q [.i 2 0]
 (.q [.op 4 (.build [.i 0,.i 0,.i 0,.i 0,.i 0,.i 0,.i 0,.i 0,.i 0,.i 0,.i 0,.i 0,.i 0,.i 0,.i 0,.i 0,.i 0,.i 0,.i 0,.i 0,.i 0,.i 0,.i 0,.i 0,.i 0,.i 0,.i 0,.i 0,.i 0,.i 0,.i 0,.i 0] [(0,1,(.i 8364)),(1,1,(.i 0)),(2,1,(.i 8218)),(3,1,(.i 402)),(4,1,(.i 8222)),(5,1,(.i 8230)),(6,1,(.i 8224)),(7,1,(.i 8225)),(8,1,(.i 710)),(9,1,(.i 8240)),(10,1,(.i 352)),(11,1,(.i 8249)),(12,1,(.i 338)),(13,1,(.i 0)),(14,1,(.i 381)),(15,1,(.i 0)),(16,1,(.i 0)),(17,1,(.i 8216)),(18,1,(.i 8217)),(19,1,(.i 8220)),(20,1,(.i 8221)),(21,1,(.i 8226)),(22,1,(.i 8211)),(23,1,(.i 8212)),(24,1,(.i 732)),(25,1,(.i 8482)),(26,1,(.i 353)),(27,1,(.i 8250)),(28,1,(.i 339)),(29,1,(.i 0)),(30,1,(.i 382)),(31,1,(.i 376))]),.op 3 (.alloc [.i 0,.i 0,.i 0,.i 0,.i 0,.i 0,.i 0,.i 0,.i 0,.i 0,.i 0,.i 0,.i 0,.i 0,.i 0,.i 0,.i 0,.i 0,.i 0,.i 0,.i 0,.i 0,.i 0,.i 0,.i 0,.i 0,.i 0,.i 0,.i 0,.i 0,.i 0,.i 0]),.s 100001 32 3 4]
 (.seq (.q [.m 5 0,.B 6 .geq 5 160]
 (.c 6 (.q [.m 7 0,.m 2 7]
 .ret)))
 (.q [.m 8 0,.B 9 .sub 8 128,.op 10 (.aaddr 32 1 (.t 3) (.t 9)),.l 11 10,.m 2 11]
 .ret)))⟩
theorem r_Ce {Te:TE}:C_Ce (RF Te x_Ce):=by
 intro b hb
 refine run0 ?_
 cases g1:decide (b≥160)
 ·have e:IntKind.i64.wrap (b - 128)=b - 128:=IntWalk.i64_in _ (by omega)
  have hk:(b - 128).toNat < 32:=by simp only [decide_eq_false_iff_not] at g1; omega
  simp -implicitDefEqProofs only [x_Ce,go_sem,winB,g1,e,Nat.mul_one]
  repeat refine ⟨sc,?_⟩
  try exact sf
  try simp -implicitDefEqProofs only [go_sem,win_cel hk,g1]
  repeat refine ⟨sc,?_⟩
  try exact sf
 ·simp -implicitDefEqProofs only [x_Ce,go_sem,winB,g1]
  repeat refine ⟨sc,?_⟩
  try exact sf
def x_G3:FnX:=⟨13,[.tmp 2],
  .q [.i 2 0]
 (.q [.op 4 (.bslice 1 [(.i 8364),(.i (-1)),(.i 8218),(.i 402),(.i 8222),(.i 8230),(.i 8224),(.i 8225),(.i 710),(.i 8240),(.i 352),(.i 8249),(.i 338),(.i (-1)),(.i 381),(.i (-1)),(.i (-1)),(.i 8216),(.i 8217),(.i 8220),(.i 8221),(.i 8226),(.i 8211),(.i 8212),(.i 732),(.i 8482),(.i 353),(.i 8250),(.i 339),(.i (-1)),(.i 382),(.i 376)]),.m 3 4]
 (.seq (.q [.m 5 0,.B 6 .geq 5 160]
 (.c 6 (.q [.m 7 0,.m 2 7]
 .ret)))
 (.q [.m 8 3,.m 9 0,.B 10 .sub 9 128,.x 11 1 8 10,.l 12 11,.m 2 12]
 .ret)))⟩
theorem r_G3 {Te:TE}:C_G3 (RF Te x_G3):=by
 intro b hb
 refine run0 ?_
 cases g1:decide (b≥160)
 ·have e:IntKind.i64.wrap (b - 128)=b - 128:=IntWalk.i64_in _ (by omega)
  have hk:(b - 128).toNat < 32:=by simp only [decide_eq_false_iff_not] at g1; omega
  simp -implicitDefEqProofs only [x_G3,go_sem,winB,g1,e,Nat.mul_one,List.getD_eq_getElem?_getD]
  repeat refine ⟨sc,?_⟩
  try exact sf
  try simp -implicitDefEqProofs only [go_sem,win_row hk,g1]
  repeat refine ⟨sc,?_⟩
  try exact sf
  try simp only [List.getD_eq_getElem?_getD]
 ·simp -implicitDefEqProofs only [x_G3,go_sem,winB,g1]
  repeat refine ⟨sc,?_⟩
  try exact sf
def x_At:FnX:=⟨77,[.cell 4 (some 10),.tmp 5,.tmp 6,.tmp 7],
  .q [.v 2 0,.op 4 (.alloc [.nils 1,.nils 2,.i 0,.F,.nils 7,.i 0,.nils 3,.i 0,.i 0,.i 0]),.op 5 (.mv (.k (.one (.pv (.string ⟨#[]⟩))))),.i 6 0,.F 7]
 (.q [.L 17 10 2,.c 18 60 [17],.op 8 (.alloc [.nils 1,.nils 2,.i 0,.F,.nils 7,.i 0,.nils 3,.i 0,.i 0,.i 0]),.s 100001 10 8 18]
 (.q [.f 19 2 0,.f 20 19 4,.f 21 20 1,.l 22 21,.m 9 22]
 (.seq (.q [.L 23 10 2,.c 24 82 [23],.N 25 24,.m 26 25,.z 26 (.m 27 9),.z 26 (.c 28 21 [27]),.z 26 (.N 29 28),.r 30 26 29]
 (.c 30 (.q [.L 31 10 8,.m 32 1,.s 100002 10 4 31,.m 5 32,.i 6 0,.F 7]
 .ret)))
 (.q [.f 33 2 0,.f 34 33 4,.L 35 3 34,.m 36 1,.c 37 83 [35,36],.m 10 37]
 (.q [.m 38 1,.m 11 38]
 (.seq (.q [.m 39 10,.m 40 10,.n 41 40,.op 42 (.min (.i 2) (.t 41)),.op 43 (.slice 7 (.t 39) none (some (.t 42))),.n 44 43,.i 45 0]
 (.block 0 (.loop [1,4,8,9,10,11,43,44,45] (.q [.b 46 .lss 45 44]
 (.seq (.cond 46 .skip (.exit 0))
 (.seq (.block 1 (.q [.x 47 7 43 45,.L 48 7 47,.op 13 (.alloc [.e,.i 0,.nils 1,.i 0,.nils 1,.i 0,.F]),.s 100003 7 13 48]
 (.q [.m 49 9,.L 50 7 13,.c 51 84 [49,50],.op 14 (.alloc [.e,.i 0,.nils 1,.i 0,.nils 1,.i 0,.F]),.s 100004 7 14 51]
 (.q [.f 52 13 0,.l 53 52,.m 11 53]
 (.seq (.q [.L 54 7 14,.L 55 7 13,.c 56 85 [54,55]]
 (.c 56 (.exit 1)))
 (.q [.L 58 10 8,.L 59 7 14,.op 60 (.build [.i 0,.e,.i 0,.nils 1,.i 0,.nils 1,.i 0,.F,.e,.i 0,.i 0,.i 0,.i 0] [(0,1,(.i 1)),(1,7,(.t 59))]),.c 61 86 [58,60],.m 57 61,.e 62 57 0,.e 63 57 1,.op 15 (.alloc [.nils 1,.nils 2,.i 0,.F,.nils 7,.i 0,.nils 3,.i 0,.i 0,.i 0]),.s 100005 10 15 62,.m 16 63]
 (.q [.L 64 10 15,.s 100006 10 8 64]
 (.q [.m 65 16,.N 66 65]
 (.c 66 (.q [.L 67 10 8,.m 68 1,.s 100007 10 4 67,.m 5 68,.i 6 0,.F 7]
 .ret))))))))))
 (.reg [.B 69 .add 45 1,.m 45 69])))))))
 (.norm [4,8,10,11] (.seq (.q [.m 70 10,.n 71 70,.B 72 .gtr 71 2]
 (.c 72 (.q [.L 73 10 8,.m 74 11,.s 100008 10 4 73,.m 5 74,.i 6 0,.T 7]
 .ret)))
 (.q [.L 75 10 8,.m 76 11,.s 100009 10 4 75,.m 5 76,.i 6 1,.T 7]
 .ret)))))))))⟩
theorem r_At {Te:TE} (c_Br:C_Br Te) (c_Bz:C_Bz Te) (c_Bh:C_Bh Te) (c_C8:C_C8 Te) (c_Cd:C_Cd Te) (c_Ca:C_Ca Te) (c_Bk:C_Bk Te):C_At (RF Te x_At):=by
 intro n f hn
 have hL:=hn.len (by decide)
 refine X0 x_At.eq_1 ?_
 refine C0 (c_Br n hL) ?_
 refine C0 (c_Bz n (hn.mono (by decide))) ?_
 cases g1:n.up
 ·have e:n.step f=(n,f,0,false):=by rw [NodeV.step,g1]; rfl
  exact F1 e
 refine G0 ?_
 refine C0 (c_Bh _) ?_
 cases g2:walks n.S.T.Phase
 ·have e:n.step f=(n,f,0,false):=by rw [NodeV.step,g1,g2]; rfl
  exact F1 e
 refine G0 ?_
 refine C0 (c_C8 n.S.T f (by have:=hn.2.1.1; omega)) ?_
 have hB:(behind f n.S.T.Rows).length≤n.S.T.Rows.length:=List.length_filter_le _ _
 have hB2:∀ r∈behind f n.S.T.Rows,r.In (2 ^ 20):=fun r hr=>hn.2.1.2 r (List.mem_filter.1 hr).1
 have e:n.step f=(bif (stepN n.S.T.Phase n ((behind f n.S.T.Rows).take 2)).2 then ((stepN n.S.T.Phase n ((behind f n.S.T.Rows).take 2)).1,lastKey f ((behind f n.S.T.Rows).take 2),bif decide (((behind f n.S.T.Rows).length:Int) > 2) then 0 else 1,true) else ((stepN n.S.T.Phase n ((behind f n.S.T.Rows).take 2)).1,f,0,false)):=by rw [NodeV.step,g1,g2]; rfl
 rw [e]
 clear e
 generalize behind f n.S.T.Rows=B at hB hB2
 have hBr:B.length≤2 ^ 20:=by have:=hn.2.1.1; omega
 have ek:(bif decide ((B.length:Int) < 2) then (B.length:Int) else 2)=((B.take 2).length:Nat):=by
  rw [List.length_take]
  by_cases h:(B.length:Int) < 2
  ·rw [decide_eq_true h,cond_true]; omega
  ·rw [decide_eq_false h,cond_false]; omega
 rw [ek]
 have hk:(B.take 2).length≤B.length:=by rw [List.length_take]; omega
 have hk2:(B.take 2).length≤2:=by rw [List.length_take]; omega
 have hget:∀ (i:Nat) (h:i < (B.take 2).length) (h2:i < B.length),(B.take 2)[i]=B[i]:=fun i h h2=>List.getElem_take
 generalize B.take 2=C at hk hk2 hget
 generalize hp:n.S.T.Phase=p
 try simp -implicitDefEqProofs (maxSteps:=1000000) only [go_sem,Int.toNat_natCast,hp]
 repeat refine ⟨sc,?_⟩
 try exact sf
 refine loop_of (σ:=Nat×NodeV×List T) (fun x=>⟨[(1,.one (.pv (.string f))),(4,.bp 4 0),(8,.bp 8 0),(9,.one (.pv (.int .i64 p))),(10,.one (.rf 79 0 [] 7 0 B.length)),(11,.one (.pv (.string (lastKey f (C.take x.1))))),(43,.one (.rf 79 0 [] 7 0 C.length)),(44,.one (.pv (.int .i64 C.length))),(45,.one (.pv (.int .i64 x.1)))],[(4,[.nils 1,.nils 2,.pv (.int .i64 0),.pv (.bool false),.nils 7,.pv (.int .i64 0),.nils 3,.pv (.int .i64 0),.pv (.int .i64 0),.pv (.int .i64 0)]),(8,[.rf 80 0 [] 1 0 x.2.1.S.D.Secs.length,.rf 80 1 [] 2 0 x.2.1.S.D.Cache.length,.pv (.int .i64 x.2.1.S.D.Fuse),.pv (.bool x.2.1.S.D.Down),.rf 80 4 [] 7 0 x.2.1.S.T.Rows.length,.pv (.int .i64 x.2.1.S.T.Phase),.rf 80 6 [] 3 0 x.2.1.S.T.Marks.length,.pv (.int .i64 x.2.1.S.Gen),.pv (.int .i64 x.2.1.S.Place),.pv (.int .i64 x.2.1.Cs)])],[(0,n.enc false),(1,[sT f]),(79,[slT true 7 (RowV.enc false) B]),(80,x.2.1.enc true++x.2.2)]⟩) (fun x=>x.1≤C.length∧stepN p n (C.take x.1)=(x.2.1,true)∧x.2.1.In (2 ^ 20)) (fun x=>C.length - x.1) (0,n,[]) ?_ ⟨Nat.zero_le _,rfl,hn⟩ ?_
 ·simp -implicitDefEqProofs (maxSteps:=1000000) only [go_sem,lastKey,List.take_zero,List.getLast?_nil,List.append_nil,hp]
  try rfl
 ·rintro ⟨i,cur,E⟩ ⟨hi,hs,hc⟩
  simp only at hi hs hc
  cases q:decide ((i:Int) < (C.length:Int))
  ·have hC:C.take i=C:=List.take_of_length_le (by simp only [decide_eq_false_iff_not] at q; omega)
   rw [hC] at hs ⊢
   rw [hs]
   cases g:decide ((B.length:Int) > 2)
   ·exact F2 q g
   ·exact F2 q g
  ·have k1:i < C.length:=by simp only [decide_eq_true_eq] at q; omega
   have k2:i < B.length:=by omega
   have hr:=hB2 _ (List.getElem_mem k2)
   have et:C.take (i + 1)=C.take i++[B[i]]:=by rw [List.take_succ_eq_append_getElem k1,hget i k1 k2]
   have ew:IntKind.i64.wrap ((i:Int) + 1)=((i + 1:Nat):Int):=IntWalk.i64_in _ (by omega)
   have e1:stepN p n (C.take (i + 1))=stepN p cur [B[i]]:=by rw [et,stepN_app,hs]; rfl
   have e2:lastKey f (C.take (i + 1))=B[i].Key:=by rw [et,lastKey_snoc]
   try simp -implicitDefEqProofs (maxSteps:=1000000) only [go_sem,q,List.getD_eq_getElem?_getD,List.getElem?_eq_getElem k2]
   repeat refine ⟨sc,?_⟩
   try exact sf
   refine C0 (c_Cd p B[i] hr) ?_
   refine C0 (c_Ca (turned p B[i]) B[i]) ?_
   cases g3:rowSame (turned p B[i]) B[i]
   ·refine G1 g3 ?_
    refine C0 (c_Bk cur (recRow (turned p B[i])) hc ⟨turned_in hr,Nat.zero_le _⟩) ?_
    cases g4:(cur.S.add (recRow (turned p B[i]))).2
    ·have e3:stepN p n C=(cur.added (recRow (turned p B[i])),false):=by
      rw [← List.take_append_drop (i + 1) C,stepN_app,e1,stepN,g3,g4]; rfl
     rw [e3]
     try simp -implicitDefEqProofs (maxSteps:=1000000) only [go_sem,g4,take_all,take_marks,NodeV.added]
     repeat refine ⟨sc,?_⟩
     try exact sf
     try rfl
    ·have e3:stepN p n (C.take (i + 1))=(cur.added (recRow (turned p B[i])),true):=by rw [e1,stepN,g3,g4]; rfl
     refine G1 g4 ?_
     refine ⟨(i + 1,cur.added (recRow (turned p B[i])),[bT true]),?_,⟨k1,e3,add_in2 _ hc⟩,by simp only; omega⟩
     rw [ew]
     simp only [e2]
     try rfl
   ·have e3:stepN p n (C.take (i + 1))=(cur,true):=by rw [e1,stepN,g3]; rfl
    refine G1 g3 ?_
    refine ⟨(i + 1,cur,E),?_,⟨k1,e3,hc⟩,by simp only; omega⟩
    rw [ew]
    simp only [e2]
    try rfl
def x_An:FnX:=⟨27,[.tmp 4],
  .q [.F 4]
 (.seq (.block 0 (.q [.m 6 0,.op 7 (.call 90 [0,0,0] [(.t 6),(.i 0),(.i 4)]),.m 8 7,.y 8 (.m 9 1),.y 8 (.m 10 0),.y 8 (.B 11 .add 10 1),.y 8 (.b 12 .eql 9 11),.a 13 8 12,.m 5 13]
 (.cond 5 (.q [.T 4]
 .ret) (.q [.m 15 0,.op 16 (.call 90 [0,0,0] [(.t 15),(.i 0),(.i 3)]),.m 17 16,.y 17 (.m 18 1),.y 17 (.B 19 .eql 18 6),.a 20 17 19,.m 14 20]
 (.c 14 (.q [.T 4]
 .ret))))))
 (.q [.m 21 0,.B 22 .eql 21 6,.m 23 22,.y 23 (.m 24 1),.y 23 (.B 25 .eql 24 7),.a 26 23 25,.m 4 26]
 .ret))⟩
theorem r_An {Te:TE} (c_Ch:C_Ch Te):C_An (RF Te x_An):=by
 intro a b
 refine run0 ?_
 simp -implicitDefEqProofs only [x_An,go_sem,nextOk]
 repeat refine ⟨sc,?_⟩
 try exact sf
 refine C0 (c_Ch _ _ _) ?_
 cases g1:win a 0 4
 ·refine G0 ?_
  refine C0 (c_Ch _ _ _) ?_
  cases g2:win a 0 3
  ·refine G0 ?_
   refine bif_cases (fun h=>?_) (fun h=>?_) <;> simp -implicitDefEqProofs only [h,go_sem]
  ·refine G0 ?_
   refine ⟨fun k=>?_,fun k=>?_⟩
   ·exact F1 k
   ·refine G1 k ?_
    refine bif_cases (fun h=>?_) (fun h=>?_) <;> simp -implicitDefEqProofs only [h,k,go_sem]
 ·refine G0 ?_
  refine ⟨fun j=>?_,fun j=>?_⟩
  ·exact F1 j
  ·refine G1 j ?_
   refine C0 (c_Ch _ _ _) ?_
   cases g2:win a 0 3
   ·refine G0 ?_
    refine bif_cases (fun h=>?_) (fun h=>?_) <;> simp -implicitDefEqProofs only [h,j,go_sem]
   ·refine G0 ?_
    refine ⟨fun k=>?_,fun k=>?_⟩
    ·exact F2 k j
    ·refine G1 k ?_
     refine bif_cases (fun h=>?_) (fun h=>?_) <;> simp -implicitDefEqProofs only [h,k,j,go_sem]
def x_Df:FnX:=⟨27,[.tmp 4],
  .q [.F 4]
 (.seq (.block 0 (.q [.m 6 0,.op 7 (.call 120 [0,0,0] [(.t 6),(.i 0),(.i 4)]),.m 8 7,.y 8 (.m 9 1),.y 8 (.m 10 0),.y 8 (.B 11 .add 10 1),.y 8 (.b 12 .eql 9 11),.a 13 8 12,.m 5 13]
 (.cond 5 (.q [.T 4]
 .ret) (.q [.m 15 0,.op 16 (.call 120 [0,0,0] [(.t 15),(.i 0),(.i 3)]),.m 17 16,.y 17 (.m 18 1),.y 17 (.B 19 .eql 18 6),.a 20 17 19,.m 14 20]
 (.c 14 (.q [.T 4]
 .ret))))))
 (.q [.m 21 0,.B 22 .eql 21 6,.m 23 22,.y 23 (.m 24 1),.y 23 (.B 25 .eql 24 7),.a 26 23 25,.m 4 26]
 .ret))⟩
theorem r_Df {Te:TE} (c_Fo:C_Fo Te):C_Df (RF Te x_Df):=by
 intro a b
 refine run0 ?_
 simp -implicitDefEqProofs only [x_Df,go_sem,nextOk]
 repeat refine ⟨sc,?_⟩
 try exact sf
 refine C0 (c_Fo _ _ _) ?_
 cases g1:win a 0 4
 ·refine G0 ?_
  refine C0 (c_Fo _ _ _) ?_
  cases g2:win a 0 3
  ·refine G0 ?_
   refine bif_cases (fun h=>?_) (fun h=>?_) <;> simp -implicitDefEqProofs only [h,go_sem]
  ·refine G0 ?_
   refine ⟨fun k=>?_,fun k=>?_⟩
   ·exact F1 k
   ·refine G1 k ?_
    refine bif_cases (fun h=>?_) (fun h=>?_) <;> simp -implicitDefEqProofs only [h,k,go_sem]
 ·refine G0 ?_
  refine ⟨fun j=>?_,fun j=>?_⟩
  ·exact F1 j
  ·refine G1 j ?_
   refine C0 (c_Fo _ _ _) ?_
   cases g2:win a 0 3
   ·refine G0 ?_
    refine bif_cases (fun h=>?_) (fun h=>?_) <;> simp -implicitDefEqProofs only [h,j,go_sem]
   ·refine G0 ?_
    refine ⟨fun k=>?_,fun k=>?_⟩
    ·exact F2 k j
    ·refine G1 k ?_
     refine bif_cases (fun h=>?_) (fun h=>?_) <;> simp -implicitDefEqProofs only [h,k,j,go_sem]
def x_En:FnX:=⟨31,[.cell 2 (some 3)],
  .q [.v 1 0,.op 2 (.alloc [.nils 7,.i 0,.nils 3])]
 (.seq (.draw [.f 5 1 1,.l 6 5,.op 7 (.bslice 3 []),.f 8 1 2,.l 9 8,.op 10 (.app 3 24 (.t 7) (.t 9)),.op 11 (.build [.nils 7,.i 0,.nils 3] [(1,1,(.t 6)),(2,1,(.t 10))]),.op 3 (.alloc [.nils 7,.i 0,.nils 3]),.s 100001 3 3 11] [[],[0],[],[],[3],[2,4],[1,5],[],[7,6,5,0,1,2,3,4,5,6,7]])
 (.seq (.q [.i 4 0]
 (.up 3 0 300000 (.block 0 (.loop [1,2,3,4] (.seq (.q [.m 12 4,.f 13 1 0,.l 14 13,.n 15 14,.b 16 .lss 12 15]
 (.cond 16 .skip (.exit 0)))
 (.seq (.block 1 (.draw [.f 19 3 0,.l 20 19,.f 21 1 0,.l 22 21,.m 23 4,.x 24 7 22 23,.L 25 7 24,.c 26 288 [25],.op 27 (.bslice 7 [(.t 26)]),.op 28 (.app 7 96 (.t 20) (.t 27)),.f 29 3 0,.s 100002 1 29 28] [[],[0],[],[2],[],[3,4],[5],[6],[7],[1,8,7],[0,1,2,3,4,5,6,7,8,9],[10,9,9,0,1,2,3,4,5,6,7,8,9]]))
 (.reg [.m 17 4,.B 18 .add 17 1,.m 4 18])))))))
 (.norm [2,3] (.q [.L 30 3 3,.s 100003 3 2 30]
 .ret))))⟩
theorem r_En {Te:TE} (c_Ge:C_Ge Te):C_En (RF Te x_En):=by
 intro t h
 obtain ⟨⟨hR,hRl⟩,hM⟩:=h
 refine X0 x_En.eq_1 ?_
 refine loop_of (σ:=Nat×List RowV) (fun x=>⟨[(1,.bp 1 0),(2,.bp 2 0),(3,.bp 3 0),(4,.one (.pv (.int .i64 x.1)))],[(1,[.ro 7 (t.Rows.map (RowV.enc false)),.pv (.int .i64 t.Phase),.ro 3 (t.Marks.map MarkV.row)]),(2,[.nils 7,.pv (.int .i64 0),.nils 3]),(3,[.rf 32 0 [] 7 0 x.2.length,.pv (.int .i64 t.Phase),.rf 33 0 [] 3 0 t.Marks.length])],[(0,t.enc false),(32,[slT true 7 (RowV.enc true) x.2]),(33,[slT true 3 MarkV.row t.Marks])]⟩) (fun x=>x.1≤t.Rows.length∧x.2=t.Rows.take x.1) (fun x=>t.Rows.length - x.1) (0,[]) ?_ ⟨Nat.zero_le _,rfl⟩ ?_
 ·simp -implicitDefEqProofs (maxSteps:=1000000) only [go_sem]
  try rfl
 ·rintro ⟨i,l⟩ ⟨hi,he⟩
  simp only at hi he
  have hl:l.length=i:=by rw [he,List.length_take]; omega
  cases q:decide ((i:Int) < (t.Rows.length:Int))
  ·have k0:i=t.Rows.length:=by simp only [decide_eq_false_iff_not] at q; omega
   rw [k0,List.take_length] at he
   subst he
   exact F1 q
  ·have k1:i < t.Rows.length:=by simp only [decide_eq_true_eq] at q; omega
   have ea:=app1Rw l t.Rows[i]
   refine G2 q (List.getElem?_eq_getElem k1) ?_
   refine C1 (c_Ge t.Rows[i] (hRl _ (List.getElem_mem k1))) ea ?_
   refine ⟨(i + 1,l++[t.Rows[i]]),?_,⟨k1,by rw [he,List.take_succ_eq_append_getElem k1]⟩,by simp only; omega⟩
   rw [IntWalk.i64_in _ (by omega)]
   simp only [List.length_append]
   rfl
def x_Bt:FnX:=⟨14,[.cell 2 (some 9)],
  .q [.v 1 0,.op 2 (.alloc [.nils 1,.nils 2,.i 0,.F,.nils 7,.i 0,.nils 3,.i 0,.i 0])]
 (.seq (.draw [.f 3 1 0,.L 4 4 3,.c 5 245 [4],.f 6 1 4,.L 7 3 6,.c 8 246 [7],.f 9 1 7,.l 10 9,.f 11 1 8,.l 12 11,.op 13 (.build [.nils 1,.nils 2,.i 0,.F,.nils 7,.i 0,.nils 3,.i 0,.i 0] [(0,4,(.t 5)),(4,3,(.t 8)),(7,1,(.t 10)),(8,1,(.t 12))]),.s 100001 9 2 13] [[],[0],[1],[],[3],[4,2],[],[6],[],[8],[2,5,7,9],[10,5,0,1,2,3,4,5,6,7,8,9,10]])
 .ret)⟩
theorem r_Bt {Te:TE} (c_Bq:C_Bq Te) (c_Bu:C_Bu Te):C_Bt (RF Te x_Bt):=by
 intro s h
 refine X0 x_Bt.eq_1 ?_
 refine C0 (c_Bq s.D h.1) ?_
 exact D0 (c_Bu s.T h.2)
def x_Ex:FnX:=⟨14,[.cell 2 (some 9)],
  .q [.v 1 0,.op 2 (.alloc [.nils 1,.nils 2,.i 0,.F,.nils 7,.i 0,.nils 3,.i 0,.i 0])]
 (.seq (.draw [.f 3 1 0,.L 4 4 3,.c 5 248 [4],.f 6 1 4,.L 7 3 6,.c 8 249 [7],.f 9 1 7,.l 10 9,.f 11 1 8,.l 12 11,.op 13 (.build [.nils 1,.nils 2,.i 0,.F,.nils 7,.i 0,.nils 3,.i 0,.i 0] [(0,4,(.t 5)),(4,3,(.t 8)),(7,1,(.t 10)),(8,1,(.t 12))]),.s 100001 9 2 13] [[],[0],[1],[],[3],[4,2],[],[6],[],[8],[2,5,7,9],[10,5,0,1,2,3,4,5,6,7,8,9,10]])
 .ret)⟩
theorem r_Ex {Te:TE} (c_Ec:C_Ec Te) (c_En:C_En Te):C_Ex (RF Te x_Ex):=by
 intro s h
 refine X0 x_Ex.eq_1 ?_
 refine C0 (c_Ec s.D h.1) ?_
 exact D0 (c_En s.T h.2)
def x_Br:FnX:=⟨9,[.cell 2 (some 10)],
  .q [.v 1 0,.op 2 (.alloc [.nils 1,.nils 2,.i 0,.F,.nils 7,.i 0,.nils 3,.i 0,.i 0,.i 0])]
 (.seq (.draw [.f 3 1 0,.L 4 9 3,.c 5 158 [4],.f 6 1 9,.l 7 6,.op 8 (.build [.nils 1,.nils 2,.i 0,.F,.nils 7,.i 0,.nils 3,.i 0,.i 0,.i 0] [(0,9,(.t 5)),(9,1,(.t 7))]),.s 100001 10 2 8] [[],[0],[1],[],[3],[2,4],[5,2,0,1,2,3,4,5]])
 .ret)⟩
theorem r_Br {Te:TE} (c_Bt:C_Bt Te):C_Br (RF Te x_Br):=by
 intro n h
 refine X0 x_Br.eq_1 ?_
 exact D0 (c_Bt n.S h)
def x_F1:FnX:=⟨9,[.cell 2 (some 10)],
  .q [.v 1 0,.op 2 (.alloc [.nils 1,.nils 2,.i 0,.F,.nils 7,.i 0,.nils 3,.i 0,.i 0,.i 0])]
 (.seq (.draw [.f 3 1 0,.L 4 9 3,.c 5 162 [4],.f 6 1 9,.l 7 6,.op 8 (.build [.nils 1,.nils 2,.i 0,.F,.nils 7,.i 0,.nils 3,.i 0,.i 0,.i 0] [(0,9,(.t 5)),(9,1,(.t 7))]),.s 100001 10 2 8] [[],[0],[1],[],[3],[2,4],[5,2,0,1,2,3,4,5]])
 .ret)⟩
theorem r_F1 {Te:TE} (c_Ex:C_Ex Te):C_F1 (RF Te x_F1):=by
 intro n h
 refine X0 x_F1.eq_1 ?_
 exact D0 (c_Ex n.S h)
def x_Gn:FnX:=⟨42,[.tmp 4],
  .q [.op 4 (.mv (.k (.one (.nils 7))))]
 (.q [.m 8 0,.m 9 1,.op 10 (.vcall 175 309 [0,15] [(.t 8)] (.t 9)),.m 5 10]
 (.seq (.q [.m 11 5,.B 12 .eql 11 (-1)]
 (.c 12 (.q [.m 13 0,.m 4 13]
 .ret)))
 (.seq (.q [.m 14 5,.B 15 .add 14 1,.m 6 15]
 (.block 0 (.loop [0,1,5,6] (.seq (.q [.m 16 6,.m 17 0,.n 18 17,.b 19 .lss 16 18]
 (.cond 19 .skip (.exit 0)))
 (.seq (.block 1 (.q [.m 22 0,.m 23 6,.x 24 7 22 23,.L 25 7 24,.op 7 (.alloc [.e,.i 0,.nils 1,.i 0,.nils 1,.i 0,.F]),.s 100001 7 7 25]
 (.q [.m 26 1,.L 27 7 7,.op 28 (.dcall 309 [0,15] [(.t 27)] (.t 26)),.N 29 28]
 (.c 29 (.q [.m 30 0,.m 31 5,.L 32 7 7,.x 33 7 30 31,.s 100002 7 33 32]
 (.reg [.m 34 5,.B 35 .add 34 1,.m 5 35]))))))
 (.reg [.m 20 6,.B 21 .add 20 1,.m 6 21]))))))
 (.norm [0,5] (.q [.m 36 0,.m 37 5,.op 38 (.slice 7 (.t 36) (some (.t 37)) none),⟨none,none,100003,.clear 7 [.pv (.string ⟨#[]⟩),.pv (.int .i64 0),.sl true 1 () [],.pv (.int .i64 0),.sl true 1 () [],.pv (.int .i64 0),.pv (.bool false)] (.t 38)⟩]
 (.q [.m 39 0,.m 40 5,.op 41 (.slice 7 (.t 39) none (some (.t 40))),.m 4 41]
 .ret))))))⟩
theorem r_Gn {Te:TE} (c_Go:C_Go Te) (c_A2:C_A2 Te):C_Gn (RFV Te 309 x_Gn):=by
 intro l r hl
 refine run0V ?_
 simp -implicitDefEqProofs (maxSteps:=1000000) only [x_Gn,go_sem]
 repeat refine ⟨sc,?_⟩
 try exact sf
 refine C0 (c_Go l r (by omega)) ?_
 rcases rowAt_cases l r.Key with ⟨e1,e2⟩ | ⟨hk,e1,e2⟩
 ·have e:=delRows_none e1
  exact F2 e1 e
 have c1:((rowIx l r.Key:Int) == -1)=false:=by simp only [beq_eq_false_iff_ne]; omega
 have d1:=delRows_take hk
 refine G2 e1 c1 ?_
 refine loop_of (σ:=Nat×List RowV×List (List T)) (fun x=>⟨[(0,.one (.rf 0 0 [] 7 0 l.length)),(1,.fn 309 1 0),(5,.one (.pv (.int .i64 x.2.1.length))),(6,.one (.pv (.int .i64 x.1)))],[(1,[.pv (.int .i64 r.Kind),.pv (.string r.R.Key),.pv (.int .i64 r.R.Old.Tag),.dead,.pv (.int .i64 r.R.New.Tag),.dead,.pv (.int .i64 r.R.Has),.pv (.bool r.R.Aside),.pv (.string r.Key),.pv (.int .i64 r.N),.pv (.int .i64 r.Who),.pv (.int .i64 r.Seq),.pv (.int .i64 r.Code)])],[(0,[Tr.sl true 7 () (delSt l x.2.1 x.2.2 x.1)]),(1,r.dim)]⟩) (fun x=>x.1≤l.length∧x.2.1=delRows (l.take x.1) r.Key∧x.2.1.length + x.2.2.length=x.1∧x.2.2≠[]∧∀ y∈x.2.2,y.length=7) (fun x=>l.length - x.1) (rowIx l r.Key + 1,l.take (rowIx l r.Key),[l[rowIx l r.Key].enc true]) ?_ ⟨hk,d1.symm,by simp only [List.length_take,List.length_cons,List.length_nil]; omega,by simp,fun y hy=>by simp only [List.mem_cons,List.not_mem_nil,or_false] at hy; rw [hy]; rfl⟩ ?_
 ·have e3:delSt l (l.take (rowIx l r.Key)) [l[rowIx l r.Key].enc true] (rowIx l r.Key + 1)=l.map (RowV.enc true):=by
   simp only [delSt]
   rw [List.append_assoc,show ([l[rowIx l r.Key].enc true]++(l.drop (rowIx l r.Key + 1)).map (RowV.enc true))=(l.drop (rowIx l r.Key)).map (RowV.enc true) by rw [List.drop_eq_getElem_cons hk,List.map_cons]; rfl,← List.map_append,List.take_append_drop]
  have e4:(l.take (rowIx l r.Key)).length=rowIx l r.Key:=by rw [List.length_take]; omega
  simp -implicitDefEqProofs (maxSteps:=1000000) only [go_sem,e3,e4]
  rw [IntWalk.i64_in _ (by omega)]
  try rfl
 ·rintro ⟨j,k,m⟩ ⟨hj,hk',hm,hne,hm7⟩
  simp only at hj hk' hm hne hm7
  have el:=delSt_len hj hm
  cases q:decide ((j:Int) < (l.length:Int))
  ·have k0:j=l.length:=by simp only [decide_eq_false_iff_not] at q; omega
   subst k0
   rw [List.take_length] at hk'
   refine G2 q el ?_
   have hkl:k.length≤l.length:=by omega
   have eA:List.take k.length (delSt l k m l.length)=k.map (RowV.enc true):=by
    rw [delSt,List.append_assoc]
    exact List.take_left' (by simp)
   refine ⟨decide_eq_true (by simp only [List.length_take,el,List.length_drop]; omega),?_⟩
   rw [eA,Nat.sub_zero,List.append_assoc,List.take_left' (by simp),← hk']
   try rfl
  ·have k1:j < l.length:=by simp only [decide_eq_true_eq] at q; omega
   have eg:=delSt_get k1 hm
   have ed:(delSt l k m j).getD j []=l[j].enc true:=by rw [List.getD_eq_getElem?_getD,eg]; rfl
   refine G4 q eg ed el ?_
   refine C3 (c_A2 l[j] r) eg ed el ?_
   have st:=delRows_step (key:=r.Key) k1
   rw [← hk'] at st
   cases g:decide (l[j].Key=r.Key)
   ·obtain ⟨x,m',rfl⟩:∃ x m',m=x::m':=by
     cases m with
     | nil=>exact absurd rfl hne
     | cons x m'=>exact ⟨x,m',rfl⟩
    have e5:∀ X:List T,((delSt l k (x::m') j).set j X)[j]?=some X:=fun X=>List.getElem?_set_self (by rw [el]; exact k1)
    have e6:(j==k.length)=false:=by simp only [beq_eq_false_iff_ne]; simp only [List.length_cons] at hm; omega
    have hx7:=hm7 x (List.mem_cons_self ..)
    have e7:∀ X:List T,((delSt l k (x::m') j).set j X).getD k.length []=x:=fun X=>by
     rw [List.getD_eq_getElem?_getD,List.getElem?_set_ne (by simp only [List.length_cons] at hm; omega),← List.getD_eq_getElem?_getD,delSt_row]
    have e8:x.drop 7=[]:=List.drop_of_length_le (by omega)
    have e9:decide (k.length < l.length)=true:=decide_eq_true (by simp only [List.length_cons] at hm; omega)
    have e10:=delSt_move (k:=k) (m:=m') (x:=x) k1 hm
    simp only [goneR] at e10
    try simp -implicitDefEqProofs (maxSteps:=1000000) only [go_sem,g,eg,ed,el,e5,e6,List.set_set,List.length_set,take_rows]
    repeat refine ⟨sc,?_⟩
    try exact sf
    try simp -implicitDefEqProofs (maxSteps:=1000000) only [go_sem,storeAp,setCells,e5,e6,e7,e8,e9,e10,el,List.set_set,List.length_set,take_rows]
    repeat refine ⟨sc,?_⟩
    try exact sf
    refine ⟨(j + 1,k++[l[j]],m'++[goneR l[j]]),?_,⟨k1,by rw [st,g]; rfl,by simp only [List.length_append,List.length_cons,List.length_nil] at hm ⊢; omega,by simp,fun y hy=>by
     rcases List.mem_append.1 hy with hy | hy
     ·exact hm7 y (List.mem_cons_of_mem _ hy)
     ·simp only [List.mem_cons,List.not_mem_nil,or_false] at hy; rw [hy]; rfl⟩,by simp only; omega⟩
    rw [IntWalk.i64_in _ (by omega),IntWalk.i64_in _ (by simp only [List.length_cons] at hm; omega)]
    simp only [List.length_append]
    rfl
   ·refine G1 g ?_
    refine ⟨(j + 1,k,m++[l[j].enc true]),?_,⟨k1,by rw [st,g]; rfl,by simp only [List.length_append,List.length_cons,List.length_nil]; omega,by simp,fun y hy=>by
     rcases List.mem_append.1 hy with hy | hy
     ·exact hm7 y hy
     ·simp only [List.mem_cons,List.not_mem_nil,or_false] at hy; rw [hy]; rfl⟩,by simp only; omega⟩
    rw [IntWalk.i64_in _ (by omega),delSt_skip k1]
    rfl
def x_Ee:FnX:=⟨46,[],
  .seq (.q [.m 3 0,.op 4 (.nilc (.t 3)),.f 5 4 3,.l 6 5,.m 7 6,.z 7 (.m 8 0),.z 7 (.op 9 (.call 281 [6] [(.t 8)])),.z 7 (.N 10 9),.r 11 7 10]
 (.c 11 .ret))
 (.seq (.q [.i 2 0]
 (.block 0 (.loop [0,2] (.seq (.q [.m 12 2,.m 13 0,.op 14 (.nilc (.t 13)),.f 15 14 1,.l 16 15,.n 17 16,.b 18 .lss 12 17]
 (.cond 18 .skip (.exit 0)))
 (.seq (.block 1 (.draw [.m 21 0,.op 22 (.nilc (.t 21)),.f 23 22 0,.l 24 23,.m 25 0,.op 26 (.nilc (.t 25)),.f 27 26 1,.l 28 27,.m 29 2,.x 30 2 28 29,.f 31 30 0,.l 32 31,.m 33 0,.op 34 (.nilc (.t 33)),.f 35 34 1,.l 36 35,.m 37 2,.x 38 2 36 37,.f 39 38 1,.l 40 39,.x 41 1 24 32,.s 100001 1 41 40] [[],[0],[1],[2],[],[4],[5],[6],[],[7,8],[9],[10],[],[12],[13],[14],[],[15,16],[17],[18],[3,11,0,1,2,3,4,5,6,7,8,9,10,11,12,13,14,15,16,17,18,19],[20,19,0,1,2,3,4,5,6,7,8,9,10,11,12,13,14,15,16,17,18,19]]))
 (.reg [.m 19 2,.B 20 .add 19 1,.m 2 20]))))))
 (.norm [0] (.reg [.m 42 0,.op 43 (.bslice 2 []),.op 44 (.nilc (.t 42)),.f 45 44 1,.s 100002 1 45 43])))⟩
theorem r_Ee {Te:TE} (c_Ef:C_Ef Te):C_Ee (RF Te x_Ee):=by
 intro d hd hidx
 refine X0 x_Ee.eq_1 ?_
 cases g1:d.Down
 rotate_left
 ·have e:d.flush=d:=by rw [DevV.flush,if_pos g1]
  try simp -implicitDefEqProofs (maxSteps:=1000000) only [go_sem,g1,e,take_all,DevV.enc]
  repeat refine ⟨sc,?_⟩
  try exact sf
  try rfl
 have e:=show d.flush=if d.Fuse=0 then d.burn else ⟨flushed d.Secs d.Cache,[],d.burn.Fuse,d.burn.Down⟩ from if_neg (by rw [g1]; decide)
 refine G1 g1 ?_
 have tb:=c_Ef d
 simp only [DevV.enc,g1] at tb
 have bc:=burn_cache d
 have bs:=burn_secs d
 cases g6:(d.Fuse==0)
 rotate_left
 ·have g7:d.Fuse=0:=by simpa using g6
  rw [if_pos g7] at e
  refine .of (tb) ?_
  try simp -implicitDefEqProofs (maxSteps:=1000000) only [go_sem,g6,take_all,e,g1,DevV.enc]
  repeat refine ⟨sc,?_⟩
  try exact sf
  try rfl
 have g7:¬ d.Fuse=0:=by simpa using g6
 rw [if_neg g7] at e
 refine C1 (tb) g6 ?_
 refine loop_of (σ:=Nat×List (List UInt8)) (fun x=>⟨[(0,.bp 0 0),(2,.one (.pv (.int .i64 x.1)))],[(0,[.rf 47 1 [] 1 0 d.Secs.length,.rf 47 2 [] 2 0 d.Cache.length,.pv (.int .i64 d.burn.Fuse),.pv (.bool d.burn.Down)])],[(0,[.no (),.no (),iT d.Fuse,bT false]),(47,[bT true,slT true 1 (secR true) x.2,Tr.sl true 2 () (mvRows d.Cache x.1),iT d.burn.Fuse,bT d.burn.Down])]⟩) (fun x=>x.1≤d.Cache.length∧x.2=flushed d.Secs (d.Cache.take x.1)) (fun x=>d.Cache.length - x.1) (0,d.Secs) ?_ ⟨Nat.zero_le _,rfl⟩ ?_
 ·simp -implicitDefEqProofs (maxSteps:=1000000) only [go_sem,bs,bc]
  try rfl
 ·rintro ⟨i,S⟩ ⟨hi,he⟩
  simp only at hi he
  have hl:S.length=d.Secs.length:=by rw [he,flushed_len]
  have hl2:(List.map (secR true) S).length=d.Secs.length:=by rw [List.length_map,hl]
  cases q:decide ((i:Int) < (d.Cache.length:Int))
  ·have k0:i=d.Cache.length:=by simp only [decide_eq_false_iff_not] at q; omega
   rw [k0,List.take_length] at he
   have et:List.take d.Secs.length (List.map (secR true) S)=List.map (secR true) S:=List.take_of_length_le (by omega)
   rw [← he] at e
   exact F3 q et e
  ·have k1:i < d.Cache.length:=by simp only [decide_eq_true_eq] at q; omega
   have hw:=hidx _ (List.getElem_mem k1)
   have g8:decide (0≤d.Cache[i].N)=true:=decide_eq_true hw.1
   have hn:d.Cache[i].N.toNat < S.length:=by omega
   have em:=mv_get k1
   have ec:(mvRows d.Cache i).getD i []=d.Cache[i].enc true:=by rw [List.getD_eq_getElem?_getD,em]; rfl
   have ex:=mv_set k1
   have eg:=getS hn
   have es:=setS S d.Cache[i].N.toNat d.Cache[i].B
   try simp -implicitDefEqProofs (maxSteps:=1000000) only [go_sem,q,em,ec,ex,mv_len,take_rows,g8,storeAp,setCells,eg,es,hl2]
   repeat refine ⟨sc,?_⟩
   try exact sf
   refine ⟨(i + 1,S.set d.Cache[i].N.toNat d.Cache[i].B),?_,⟨k1,by rw [he,flushed_step k1]⟩,by simp only; omega⟩
   rw [IntWalk.i64_in _ (by omega)]
   rfl
def x_Ag:FnX:=⟨35,[.tmp 4,.tmp 5,.tmp 6],
  .q [.i 4 0,.i 5 0,.F 6]
 (.seq (.q [.m 9 1,.B 10 .lss 9 0,.m 11 10,.z 11 (.m 12 1),.z 11 (.m 13 0),.z 11 (.n 14 13),.z 11 (.b 15 .geq 12 14),.r 16 11 15]
 (.c 16 (.q [.i 4 0,.i 5 0,.F 6]
 .ret)))
 (.q [.m 18 0,.m 19 1,.op 20 (.slice 1 (.t 18) (some (.t 19)) none),.c 21 323 [20],.m 17 21,.e 22 17 0,.e 23 17 1,.m 7 22,.m 8 23]
 (.seq (.q [.m 24 7,.op 25 (.bin .eql (.t 24) (.k (.one (.pv (.int .i32 65533))))),.m 26 25,.y 26 (.m 27 8),.y 26 (.B 28 .lss 27 2),.a 29 26 28]
 (.c 29 (.q [.i 4 0,.i 5 0,.F 6]
 .ret)))
 (.q [.m 30 7,.op 31 (.conv (.int .i64) (.t 30)),.m 32 1,.m 33 8,.b 34 .add 32 33,.m 4 31,.m 5 34,.T 6]
 .ret))))⟩
theorem r_Ag {Te:TE} (c_Gk:C_Gk Te):C_Ag (RF Te x_Ag):=by
 intro b i hb
 refine run0 ?_
 cases q1:decide (i < 0)
 ·cases q2:decide (i≥b.length)
  ·have hi:0≤i∧i < b.length:=by simp only [decide_eq_false_iff_not] at q1 q2; omega
   have hne:b.drop i.toNat≠[]:=by
    intro e
    have:=congrArg List.length e
    rw [List.length_drop] at this
    simp only [List.length_nil] at this
    omega
   simp -implicitDefEqProofs only [x_Ag,go_sem,q1,q2,drop_map_take]
   repeat refine ⟨sc,?_⟩
   try exact sf
   refine C0 (c_Gk (b.drop i.toNat) hne) ?_
   have hw:=Lib.decodeL_width (b.drop i.toNat)
   have hc:=decodeL_bound (b.drop i.toNat)
   have hl:=Lib.decodeL_le (b.drop i.toNat) hne
   have hld:(b.drop i.toNat).length≤b.length:=by rw [List.length_drop]; omega
   by_cases hd:(Lib.decodeL (b.drop i.toNat)).1=65533∧(Lib.decodeL (b.drop i.toNat)).2=1
   ·have e1:((((Lib.decodeL (b.drop i.toNat)).1:Nat):Int)==65533)=true:=by rw [hd.1]; rfl
    have e2:decide ((((Lib.decodeL (b.drop i.toNat)).2:Nat):Int) < 2)=true:=by rw [hd.2]; rfl
    have e:=getSign_bad hi (show signAt _=none from if_pos hd)
    exact F3 e1 e2 e
   ·have e:=getSign_good hi (show signAt _=some _ from if_neg hd)
    have w1:IntKind.i64.wrap (((Lib.decodeL (b.drop i.toNat)).1:Nat):Int)=((Lib.decodeL (b.drop i.toNat)).1:Nat):=IntWalk.i64_in _ (by omega)
    have w2:IntKind.i64.wrap (i + (((Lib.decodeL (b.drop i.toNat)).2:Nat):Int))=i + ((Lib.decodeL (b.drop i.toNat)).2:Nat):=IntWalk.i64_in _ (by omega)
    cases e1:((((Lib.decodeL (b.drop i.toNat)).1:Nat):Int)==65533)
    ·exact F4 e1 e w1 w2
    ·have e2:decide ((((Lib.decodeL (b.drop i.toNat)).2:Nat):Int) < 2)=false:=by
      refine decide_eq_false fun q=>hd ⟨?_,by omega⟩
      have:=eq_of_beq e1
      omega
     try simp -implicitDefEqProofs only [go_sem,e1,e2,e,w1,w2]
     repeat refine ⟨sc,?_⟩
     try exact sf
  ·have e:=getSign_no (b:=b) (i:=i) (by simp only [decide_eq_true_eq] at q2; omega)
   simp -implicitDefEqProofs only [x_Ag,go_sem,q1,q2,e]
   repeat refine ⟨sc,?_⟩
   try exact sf
 ·have e:=getSign_no (b:=b) (i:=i) (by simp only [decide_eq_true_eq] at q1; omega)
  simp -implicitDefEqProofs only [x_Ag,go_sem,q1,e]
  repeat refine ⟨sc,?_⟩
  try exact sf
def x_Bc:FnX:=⟨22,[.tmp 2,.tmp 3],
  .q [.op 2 (.mv (.k (.one (.nils 1)))),.F 3]
 (.seq (.q [.m 7 0,.c 8 369 [7],.N 9 8]
 (.c 9 (.q [.op 2 (.mv (.k (.one (.nils 1)))),.F 3]
 .ret)))
 (.q [.op 10 (.bslice 1 []),.m 4 10]
 (.seq (.rng 0 0 11 12 13 14 [4,12] (.block 1 (.q [.e 15 13 2,.m 6 15]
 (.reg [.m 16 4,.m 17 6,.op 18 (.conv (.int .i64) (.t 17)),.op 19 (.bslice 1 [(.t 18)]),.op 20 (.app 1 8 (.t 16) (.t 19)),.m 4 20]))))
 (.norm [4] (.q [.m 21 4,.m 2 21,.T 3]
 .ret)))))⟩
theorem r_Bc {Te:TE} (c_Gl:C_Gl Te):C_Bc (RF Te x_Bc):=by
 intro s hs
 refine X0 x_Bc.eq_1 ?_
 refine .of (c_Gl s (Nat.le_trans hs (by decide))) ?_
 cases hv:Lib.validD s.data.toList
 ·try simp -implicitDefEqProofs only [go_sem,signsOf,hv,if_false]
  repeat refine ⟨sc,?_⟩
  try exact sf
  try rfl
 ·have e:signsOf s=(signs s.data.toList,true):=by simp only [signsOf,hv,if_true]
  simp -implicitDefEqProofs only [go_sem,true_implies,false_implies,e]
  refine rng_of (σ:=List Int) s (fun r acc=>⟨[(4,.one (.rf 23 0 [] 1 0 acc.length)),(12,itV r)],[],[(0,[sT s]),(23,[.sl true 1 () (acc.map iR)])]⟩) (fun p acc=>p≤s.size∧acc.length≤p∧acc++signs (s.data.toList.drop p)=signs s.data.toList) [] ?_ ?_ ?_ ⟨Nat.zero_le _,Nat.le_refl _,by simp⟩ ?_ ?_ ?_
  ·rfl
  ·rfl
  ·intro r
   simp -implicitDefEqProofs only [rngIn_mk,go_sem]
   try rfl
  ·intro r y
   exact ⟨rfl,rfl⟩
  ·rintro r p acc ⟨hp,hl,ha⟩ hlt
   have hne:s.data.toList.drop p≠[]:=by
    intro e
    have:=congrArg List.length e
    rw [List.length_drop,sizeL] at this
    simp only [List.length_nil] at this
    omega
   have ed:=Lib.decodeL_drop s p
   have hw:=Lib.decodeL_width (s.data.toList.drop p)
   have hc:=decodeL_bound (s.data.toList.drop p)
   have hle:=Lib.decodeL_le _ hne
   rw [List.length_drop,sizeL] at hle
   rw [signs_step hne,List.drop_drop] at ha
   rw [← ed]
   generalize Lib.decodeL (s.data.toList.drop p)=d at hw hc hle ha
   have w:IntKind.i64.wrap ((d.1:Nat):Int)=(d.1:Nat):=IntWalk.i64_in _ (by omega)
   have ea:List.take acc.length (List.map iR acc)=List.map iR acc:=take_map iR acc
   try simp -implicitDefEqProofs only [go_sem,rngOn_mk,w,ea]
   repeat refine ⟨sc,?_⟩
   try exact sf
   refine ⟨acc++[((d.1:Nat):Int)],?_,by omega,by simp; omega,by rw [← ha]; simp [Nat.add_comm]⟩
   rw [show List.map iR acc++[[Tr.pv (Value.int .i64 ((d.1:Nat):Int))]]=List.map iR (acc++[((d.1:Nat):Int)]) by simp]
   simp
  ·rintro r p acc ⟨hp,hl,ha⟩ hge
   have hd:s.data.toList.drop p=[]:=List.drop_eq_nil_of_le (by rw [sizeL]; exact hge)
   rw [hd,signs_nil,List.append_nil] at ha
   subst ha
   try simp -implicitDefEqProofs only [go_sem,rngOff_mk]
   repeat refine ⟨sc,?_⟩
   try exact sf
def x_De:FnX:=⟨27,[.tmp 2],
  .q [.F 2]
 (.seq (.q [.i 3 0]
 (.block 0 (.loop [0,3] (.seq (.q [.m 4 3,.m 5 0,.op 6 (.slen (.t 5)),.b 7 .lss 4 6]
 (.cond 7 .skip (.exit 0)))
 (.seq (.block 1 (.q [.m 10 0,.m 11 3,.op 12 (.sidx (.t 10) (.t 11)),.op 13 (.conv (.int .i64) (.t 12)),.op 14 (.call 120 [0,0,0] [(.t 13),(.i 97),(.i 122)]),.N 15 14,.m 16 15,.y 16 (.m 17 0),.y 16 (.m 18 3),.y 16 (.op 19 (.sidx (.t 17) (.t 18))),.y 16 (.op 20 (.conv (.int .i64) (.t 19))),.y 16 (.op 21 (.call 120 [0,0,0] [(.t 20),(.i 48),(.i 57)])),.y 16 (.N 22 21),.a 23 16 22]
 (.c 23 (.q [.F 2]
 .ret))))
 (.reg [.m 8 3,.B 9 .add 8 1,.m 3 9]))))))
 (.norm [0] (.q [.m 24 0,.op 25 (.slen (.t 24)),.op 26 (.call 120 [0,0,0] [(.t 25),(.i 1),(.i 6)]),.m 2 26]
 .ret)))⟩
theorem r_De {Te:TE} (c_Fo:C_Fo Te):C_De (RF Te x_De):=by
 intro s h
 refine run0 ?_
 have hsz:s.data.toList.length=s.size:=by rw [Array.length_toList]; rfl
 simp -implicitDefEqProofs (maxSteps:=1000000) only [x_De,go_sem,nameOk]
 repeat refine ⟨sc,?_⟩
 try exact sf
 refine loop_of (σ:=Nat) (fun i=>⟨[(0,.one (.pv (.string s))),(3,.one (.pv (.int .i64 i)))],[],[(0,[sT s])]⟩) (fun i=>i≤s.size∧(s.data.toList.take i).all nameCh=true) (fun i=>s.size - i) 0 ?_ ⟨Nat.zero_le _,rfl⟩ ?_
 ·simp -implicitDefEqProofs (maxSteps:=1000000) only [go_sem]; rfl
 ·rintro i ⟨hi,hp⟩
  cases q:decide ((i:Int) < (s.size:Int))
  ·have e:=all_end (p:=nameCh) (show s.data.toList.length≤i by simp only [decide_eq_false_iff_not] at q; omega) hp
   refine G1 q ?_
   exact D1 (c_Fo _ _ _) e
  ·have hi':i < s.size:=by simp only [decide_eq_true_eq] at q; omega
   have hi2:i < s.data.toList.length:=by omega
   have q1:decide (i < s.size)=true:=decide_eq_true hi'
   have eg:s.data.toList.getD i 0=s.data.toList[i]:=by rw [List.getD_eq_getElem?_getD,List.getElem?_eq_getElem hi2]; rfl
   have hb:=s.data.toList[i].toNat_lt
   have w1:IntKind.i64.wrap ((s.data.toList[i].toNat:Nat):Int)=(s.data.toList[i].toNat:Nat):=IntWalk.i64_in _ (by omega)
   refine G4 q q1 eg w1 ?_
   refine C0 (c_Fo _ _ _) ?_
   cases g1:win ((s.data.toList[i].toNat:Nat):Int) 97 122
   ·refine G3 q1 eg w1 ?_
    refine C0 (c_Fo _ _ _) ?_
    cases g2:win ((s.data.toList[i].toNat:Nat):Int) 48 57
    ·have e:=all_not (p:=nameCh) hi2 (by simp only [nameCh,g1,g2,Bool.or_false])
     exact F1 e
    ·refine G0 ?_
     refine ⟨i + 1,by rw [IntWalk.i64_in _ (by omega)]; rfl,⟨hi',all_step (p:=nameCh) hi2 hp (by simp only [nameCh,g1,g2,Bool.or_true])⟩,by omega⟩
   ·refine G0 ?_
    refine ⟨i + 1,by rw [IntWalk.i64_in _ (by omega)]; rfl,⟨hi',all_step (p:=nameCh) hi2 hp (by simp only [nameCh,g1,Bool.true_or])⟩,by omega⟩
end Go.X

