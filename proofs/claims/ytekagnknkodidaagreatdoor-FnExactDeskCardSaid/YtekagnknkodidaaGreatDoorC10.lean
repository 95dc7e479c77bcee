/- Texts: CVt CVi_3 CVzb CVzb_2 CVz CC CEb_4 CVk CEa CVzc CV CVg_4. -/
import Derived.Test.YtekagnknkodidaaGreatDoorC04
set_option linter.unusedVariables false
set_option linter.unusedSimpArgs false
namespace Go.X
set_option maxRecDepth 100000
set_option maxHeartbeats 8000000
def x_i_Apply_2:XCode:=.seq (.q [.L 54 3 6,.c 55 195 [54],.N 56 55]
 (.c 56 (.q [.L 57 3 2,.c 58 99 [57],.s 100007 3 4 58,.F 5]
 .ret)))
 (.q [.L 59 3 6,.s 100008 3 4 59,.T 5]
 .ret)
def x_i_Apply_1:XCode:=.seq (.q [.f 40 3 10,.l 41 40,.B 42 .gtr 41 0]
 (.c 42 (.reg [.f 43 6 2,.l 44 43,.f 45 3 10,.l 46 45,.f 47 3 11,.l 48 47,.f 49 3 12,.l 50 49,.op 51 (.build [.i 0,.i 0,.i 0] [(0,1,(.t 46)),(1,1,(.t 48)),(2,1,(.t 50))]),.c 52 204 [44,51],.f 53 6 2,.s 100006 1 53 52])))
 (.norm [2,4,6] (x_i_Apply_2))
def x_i_Apply:FnX:=⟨60,[.cell 4 (some 3),.tmp 5],
  .q [.v 2 0,.v 3 1,.op 4 (.alloc [.nils 7,.i 0,.nils 3]),.F 5]
 (.q [.L 7 3 2,.c 8 99 [7],.op 6 (.alloc [.nils 7,.i 0,.nils 3]),.s 100001 3 6 8]
 (.seq (.q [.L 9 13 3,.c 10 200 [9],.N 11 10,.m 12 11,.z 12 (.L 13 3 2),.z 12 (.c 14 195 [13]),.z 12 (.N 15 14),.r 16 12 15]
 (.c 16 (.q [.L 17 3 6,.s 100002 3 4 17,.F 5]
 .ret)))
 (.seq (.q [.f 18 3 0,.l 19 18]
 (.block 0 (.q [.B 21 .eql 19 1,.m 20 21]
 (.cond 20 (.reg [.f 22 6 0,.l 23 22,.f 24 3 1,.L 25 7 24,.op 26 (.call 201 [1,0] [(.t 23),(.t 25)]),.f 27 6 0,.s 100003 1 27 26]) (.q [.B 29 .eql 19 2,.m 28 29]
 (.cond 28 (.reg [.f 30 6 0,.l 31 30,.op 32 (.clos 203 (.t 3)),.op 33 (.vcall 202 203 [1,15] [(.t 31)] (.t 32)),.f 34 6 0,.s 100004 1 34 33]) (.q [.B 36 .eql 19 3,.m 35 36]
 (.c 35 (.reg [.f 37 3 9,.l 38 37,.f 39 6 1,.s 100005 1 39 38])))))))))
 (.norm [2,3,4,6] (x_i_Apply_1)))))⟩
theorem r_i_Apply {Te:TE} (c_i_copyTab:C_i_copyTab Te) (c_i_RecOk:C_i_RecOk Te) (c_i_TabOk:C_i_TabOk Te) (c_i_withRow:C_i_withRow Te) (c_z_DeleteFuncimplApply1:C_z_DeleteFuncimplApply1 Te) (c_i_withMark:C_i_withMark Te):C_i_Apply (RF Te x_i_Apply):=by
 intro t r ht hr
 have hL:=ht.len (by decide)
 have hLr:=(hr.len (by decide))
 have hci:=change_in ht hr
 have h1:=ht.1.1
 have h2:=ht.2
 refine X0 x_i_Apply.eq_1 ?_
 refine C0 (c_i_copyTab t hL) ?_
 refine C0 (c_i_RecOk r (hr.mono (by decide))) ?_
 cases g1:r.ok
 ·have e:t.apply r=(t,false):=by rw [TabV.apply,g1]; rfl
  exact F1 e
 refine G0 ?_
 refine C0 (c_i_TabOk t (ht.mono (by decide))) ?_
 cases g2:t.ok
 ·have e:t.apply r=(t,false):=by rw [TabV.apply,g1,g2]; rfl
  exact F1 e
 refine G0 ?_
 rcases kinds r.Kind with k | k | k | k
 all_goals
  try simp -implicitDefEqProofs (maxSteps:=1000000) only [go_sem,k]
  repeat refine ⟨sc,?_⟩
  try exact sf
 all_goals try (refine .of (c_i_withRow t.Rows r.R (by omega) hLr) ?_; simp -implicitDefEqProofs (maxSteps:=1000000) only [go_sem,take_all,take_marks])
 all_goals try (refine .of (c_z_DeleteFuncimplApply1 t.Rows r (by omega)) ?_; simp -implicitDefEqProofs (maxSteps:=1000000) only [go_sem,take_all,take_marks])
 all_goals cases w:decide (r.Who > 0)
 all_goals
  try simp -implicitDefEqProofs (maxSteps:=1000000) only [x_i_Apply_1,go_sem,w,take_all,take_marks]
 all_goals try (refine .of (c_i_withMark t.Marks ⟨r.Who,r.Seq,r.Code⟩ (by omega)) ?_; simp -implicitDefEqProofs (maxSteps:=1000000) only [go_sem,take_all,take_marks])
 all_goals
  have tk:=c_i_TabOk (t.change r) (hci.mono (by decide))
  simp only [TabV.change,TabV.put,k,w,cond_true,cond_false] at tk
  try simp -implicitDefEqProofs (maxSteps:=1000000) only [x_i_Apply_2,go_sem,take_all,take_marks]
  refine .of tk ?_
  cases g3:(t.change r).ok
 all_goals
  have g4:=g3
  simp only [TabV.change,TabV.put,k,w,cond_true,cond_false] at g4
  try simp -implicitDefEqProofs (maxSteps:=1000000) only [go_sem,g4,take_all,take_marks]
 all_goals try (refine .of (c_i_copyTab t hL) ?_; have e:t.apply r=(t,false):=(by rw [TabV.apply,g1,g2,g3]; rfl); simp -implicitDefEqProofs (maxSteps:=1000000) only [go_sem,e,take_all,take_marks])
 all_goals try (have e:t.apply r=(t.change r,true):=(by rw [TabV.apply,g1,g2,g3]; rfl); simp -implicitDefEqProofs (maxSteps:=1000000) only [go_sem,e,TabV.change,TabV.put,k,w,cond_true,cond_false,take_all,take_marks])
 all_goals try rfl
def x_i_RecOk:FnX:=⟨98,[.tmp 2],
  .q [.v 1 0,.F 2]
 (.seq (.draw [.f 6 1 1,.L 7 7 6,.op 8 (.build [.e,.i 0,.nils 1,.i 0,.nils 1,.i 0,.F] []),.c 9 71 [7,8],.f 10 1 8,.l 11 10,.op 12 (.bin .eql (.t 11) (.k (.one (.pv (.string ⟨#[]⟩))))),.m 3 9,.m 4 12] [[],[0],[],[1,2],[],[4],[5],[3,3,0,1,2,3],[6,7,0,1,2,3,4,5,6,7]])
 (.q [.F 5]
 (.seq (.q [.f 13 1 0,.l 14 13]
 (.block 0 (.q [.B 16 .eql 14 1,.m 15 16]
 (.cond 15 (.reg [.f 17 1 1,.L 18 7 17,.c 19 165 [18],.m 20 19,.y 20 (.m 21 4),.a 22 20 21,.m 23 22,.y 23 (.f 24 1 9),.y 23 (.l 25 24),.y 23 (.B 26 .eql 25 0),.a 27 23 26,.m 5 27]) (.q [.B 29 .eql 14 2,.m 28 29]
 (.cond 28 (.reg [.m 30 3,.m 31 30,.y 31 (.f 32 1 8),.y 31 (.l 33 32),.y 31 (.c 34 157 [33]),.a 35 31 34,.m 36 35,.y 36 (.f 37 1 9),.y 36 (.l 38 37),.y 36 (.B 39 .eql 38 0),.a 40 36 39,.m 5 40]) (.q [.B 42 .eql 14 3,.m 41 42]
 (.cond 41 (.reg [.m 43 3,.m 44 43,.y 44 (.m 45 4),.a 46 44 45,.m 47 46,.y 47 (.f 48 1 9),.y 47 (.l 49 48),.y 47 (.op 50 (.call 57 [0,0,0] [(.t 49),(.i 0),(.i 7)])),.a 51 47 50,.m 5 51]) (.q [.B 53 .eql 14 4,.m 52 53]
 (.c 52 (.reg [.m 54 3,.m 55 54,.y 55 (.m 56 4),.a 57 55 56,.m 58 57,.y 58 (.f 59 1 9),.y 58 (.l 60 59),.y 58 (.B 61 .eql 60 0),.a 62 58 61,.m 63 62,.y 63 (.f 64 1 10),.y 63 (.l 65 64),.y 63 (.B 66 .neq 65 0),.a 67 63 66,.m 5 67])))))))))))
 (.seq (.q [.f 68 1 10,.l 69 68,.B 70 .eql 69 0]
 (.c 70 (.q [.m 71 5,.m 72 71,.y 72 (.f 73 1 11),.y 72 (.l 74 73),.y 72 (.B 75 .eql 74 0),.a 76 72 75,.m 77 76,.y 77 (.f 78 1 12),.y 77 (.l 79 78),.y 77 (.B 80 .eql 79 0),.a 81 77 80,.m 2 81]
 .ret)))
 (.q [.m 82 5,.m 83 82,.y 83 (.f 84 1 10),.y 83 (.l 85 84),.y 83 (.op 86 (.call 57 [0,0,0] [(.t 85),(.i 1),(.i 9)])),.a 87 83 86,.m 88 87,.y 88 (.f 89 1 11),.y 88 (.l 90 89),.y 88 (.c 91 100 [90]),.a 92 88 91,.m 93 92,.y 93 (.f 94 1 12),.y 93 (.l 95 94),.y 93 (.op 96 (.call 57 [0,0,0] [(.t 95),(.i 0),(.i 6)])),.a 97 93 96,.m 2 97]
 .ret)))))⟩
theorem r_i_RecOk {Te:TE} (c_i_sameRow:C_i_sameRow Te) (c_i_RowOk:C_i_RowOk Te) (c_i_NameOk:C_i_NameOk Te) (c_i_within:C_i_within Te) (c_i_isWord:C_i_isWord Te):C_i_RecOk (RF Te x_i_RecOk):=by
 intro r h
 refine run0 ?_
 have hR:=h.1
 have hK:=h.2
 obtain ⟨kind,R,key,n,who,seq,code⟩:=r
 simp only at hR hK
 have ts:=c_i_sameRow R RowV.zero
 rw [rowSame_zero] at ts
 simp -implicitDefEqProofs (maxSteps:=1000000) only [x_i_RecOk,go_sem,bytes_beq]
 repeat refine ⟨sc,?_⟩
 try exact sf
 refine .of (ts) ?_
 try simp -implicitDefEqProofs (maxSteps:=1000000) only [go_sem,bytes_beq]
 repeat refine ⟨sc,?_⟩
 try exact sf
 by_cases q1:kind=1
 ·subst q1
  refine G0 ?_
  refine C0 (c_i_RowOk R hR) ?_
  cases g1:R.ok
  ·refine G1 g1 ?_
   cases g0:(who==0)
   ·try simp -implicitDefEqProofs (maxSteps:=1000000) only [go_sem,g0,RecV.ok,RecV.body,RecV.who,g1]
    repeat refine ⟨sc,?_⟩
    try exact sf
   ·try simp -implicitDefEqProofs (maxSteps:=1000000) only [go_sem,g0,RecV.ok,RecV.body,RecV.who,g1]
    repeat refine ⟨sc,?_⟩
    try exact sf
  refine G1 g1 ?_
  cases g2:decide (key=⟨#[]⟩)
  ·refine G2 g1 g2 ?_
   cases g0:(who==0)
   ·try simp -implicitDefEqProofs (maxSteps:=1000000) only [go_sem,g0,RecV.ok,RecV.body,RecV.who,g1,g2]
    repeat refine ⟨sc,?_⟩
    try exact sf
   ·try simp -implicitDefEqProofs (maxSteps:=1000000) only [go_sem,g0,RecV.ok,RecV.body,RecV.who,g1,g2]
    repeat refine ⟨sc,?_⟩
    try exact sf
  refine G1 g2 ?_
  cases g3:(n==0)
  ·refine G3 g1 g2 g3 ?_
   cases g0:(who==0)
   ·try simp -implicitDefEqProofs (maxSteps:=1000000) only [go_sem,g0,RecV.ok,RecV.body,RecV.who,g1,g2,g3]
    repeat refine ⟨sc,?_⟩
    try exact sf
   ·try simp -implicitDefEqProofs (maxSteps:=1000000) only [go_sem,g0,RecV.ok,RecV.body,RecV.who,g1,g2,g3]
    repeat refine ⟨sc,?_⟩
    try exact sf
  refine G1 g3 ?_
  cases g0:(who==0)
  ·refine G1 g0 ?_
   refine C0 (c_i_within _ _ _) ?_
   cases h1:win who 1 9
   ·try simp -implicitDefEqProofs (maxSteps:=1000000) only [go_sem,g0,h1,RecV.ok,RecV.body,RecV.who,g1,g2,g3]
    repeat refine ⟨sc,?_⟩
    try exact sf
   refine G0 ?_
   refine C0 (c_i_isWord _) ?_
   cases h2:win seq 0 65535
   ·try simp -implicitDefEqProofs (maxSteps:=1000000) only [go_sem,g0,h1,h2,RecV.ok,RecV.body,RecV.who,g1,g2,g3]
    repeat refine ⟨sc,?_⟩
    try exact sf
    try rfl
   refine G0 ?_
   refine .of (c_i_within _ _ _) ?_
   try simp -implicitDefEqProofs (maxSteps:=1000000) only [go_sem,g0,h1,h2,RecV.ok,RecV.body,RecV.who,g1,g2,g3]
   repeat refine ⟨sc,?_⟩
   try exact sf
  ·refine G1 g0 ?_
   cases h1:(seq==0)
   ·try simp -implicitDefEqProofs (maxSteps:=1000000) only [go_sem,g0,h1,RecV.ok,RecV.body,RecV.who,g1,g2,g3]
    repeat refine ⟨sc,?_⟩
    try exact sf
   refine G1 h1 ?_
   cases h2:(code==0)
   ·try simp -implicitDefEqProofs (maxSteps:=1000000) only [go_sem,g0,h1,h2,RecV.ok,RecV.body,RecV.who,g1,g2,g3]
    repeat refine ⟨sc,?_⟩
    try exact sf
    try rfl
   try simp -implicitDefEqProofs (maxSteps:=1000000) only [go_sem,g0,h1,h2,RecV.ok,RecV.body,RecV.who,g1,g2,g3]
   repeat refine ⟨sc,?_⟩
   try exact sf
   try rfl
 by_cases q2:kind=2
 ·subst q2
  refine G0 ?_
  cases g1:R.no
  ·refine G1 g1 ?_
   cases g0:(who==0)
   ·try simp -implicitDefEqProofs (maxSteps:=1000000) only [go_sem,g0,RecV.ok,RecV.body,RecV.who,g1]
    repeat refine ⟨sc,?_⟩
    try exact sf
   ·try simp -implicitDefEqProofs (maxSteps:=1000000) only [go_sem,g0,RecV.ok,RecV.body,RecV.who,g1]
    repeat refine ⟨sc,?_⟩
    try exact sf
  refine G1 g1 ?_
  refine C0 (c_i_NameOk key hK) ?_
  cases g2:nameOk key
  ·refine G2 g1 g2 ?_
   cases g0:(who==0)
   ·try simp -implicitDefEqProofs (maxSteps:=1000000) only [go_sem,g0,RecV.ok,RecV.body,RecV.who,g1,g2]
    repeat refine ⟨sc,?_⟩
    try exact sf
   ·try simp -implicitDefEqProofs (maxSteps:=1000000) only [go_sem,g0,RecV.ok,RecV.body,RecV.who,g1,g2]
    repeat refine ⟨sc,?_⟩
    try exact sf
  refine G1 g2 ?_
  cases g3:(n==0)
  ·refine G3 g1 g2 g3 ?_
   cases g0:(who==0)
   ·try simp -implicitDefEqProofs (maxSteps:=1000000) only [go_sem,g0,RecV.ok,RecV.body,RecV.who,g1,g2,g3]
    repeat refine ⟨sc,?_⟩
    try exact sf
   ·try simp -implicitDefEqProofs (maxSteps:=1000000) only [go_sem,g0,RecV.ok,RecV.body,RecV.who,g1,g2,g3]
    repeat refine ⟨sc,?_⟩
    try exact sf
  refine G1 g3 ?_
  cases g0:(who==0)
  ·refine G1 g0 ?_
   refine C0 (c_i_within _ _ _) ?_
   cases h1:win who 1 9
   ·try simp -implicitDefEqProofs (maxSteps:=1000000) only [go_sem,g0,h1,RecV.ok,RecV.body,RecV.who,g1,g2,g3]
    repeat refine ⟨sc,?_⟩
    try exact sf
   refine G0 ?_
   refine C0 (c_i_isWord _) ?_
   cases h2:win seq 0 65535
   ·try simp -implicitDefEqProofs (maxSteps:=1000000) only [go_sem,g0,h1,h2,RecV.ok,RecV.body,RecV.who,g1,g2,g3]
    repeat refine ⟨sc,?_⟩
    try exact sf
    try rfl
   refine G0 ?_
   refine .of (c_i_within _ _ _) ?_
   try simp -implicitDefEqProofs (maxSteps:=1000000) only [go_sem,g0,h1,h2,RecV.ok,RecV.body,RecV.who,g1,g2,g3]
   repeat refine ⟨sc,?_⟩
   try exact sf
  ·refine G1 g0 ?_
   cases h1:(seq==0)
   ·try simp -implicitDefEqProofs (maxSteps:=1000000) only [go_sem,g0,h1,RecV.ok,RecV.body,RecV.who,g1,g2,g3]
    repeat refine ⟨sc,?_⟩
    try exact sf
   refine G1 h1 ?_
   cases h2:(code==0)
   ·try simp -implicitDefEqProofs (maxSteps:=1000000) only [go_sem,g0,h1,h2,RecV.ok,RecV.body,RecV.who,g1,g2,g3]
    repeat refine ⟨sc,?_⟩
    try exact sf
    try rfl
   try simp -implicitDefEqProofs (maxSteps:=1000000) only [go_sem,g0,h1,h2,RecV.ok,RecV.body,RecV.who,g1,g2,g3]
   repeat refine ⟨sc,?_⟩
   try exact sf
   try rfl
 by_cases q3:kind=3
 ·subst q3
  refine G0 ?_
  cases g1:R.no
  ·refine G1 g1 ?_
   cases g0:(who==0)
   ·try simp -implicitDefEqProofs (maxSteps:=1000000) only [go_sem,g0,RecV.ok,RecV.body,RecV.who,g1]
    repeat refine ⟨sc,?_⟩
    try exact sf
   ·try simp -implicitDefEqProofs (maxSteps:=1000000) only [go_sem,g0,RecV.ok,RecV.body,RecV.who,g1]
    repeat refine ⟨sc,?_⟩
    try exact sf
  refine G1 g1 ?_
  cases g2:decide (key=⟨#[]⟩)
  ·refine G2 g1 g2 ?_
   cases g0:(who==0)
   ·try simp -implicitDefEqProofs (maxSteps:=1000000) only [go_sem,g0,RecV.ok,RecV.body,RecV.who,g1,g2]
    repeat refine ⟨sc,?_⟩
    try exact sf
   ·try simp -implicitDefEqProofs (maxSteps:=1000000) only [go_sem,g0,RecV.ok,RecV.body,RecV.who,g1,g2]
    repeat refine ⟨sc,?_⟩
    try exact sf
  refine G1 g2 ?_
  refine C0 (c_i_within _ _ _) ?_
  cases g3:win n 0 7
  ·refine G3 g1 g2 g3 ?_
   cases g0:(who==0)
   ·try simp -implicitDefEqProofs (maxSteps:=1000000) only [go_sem,g0,RecV.ok,RecV.body,RecV.who,g1,g2,g3]
    repeat refine ⟨sc,?_⟩
    try exact sf
   ·try simp -implicitDefEqProofs (maxSteps:=1000000) only [go_sem,g0,RecV.ok,RecV.body,RecV.who,g1,g2,g3]
    repeat refine ⟨sc,?_⟩
    try exact sf
  refine G1 g3 ?_
  cases g0:(who==0)
  ·refine G1 g0 ?_
   refine C0 (c_i_within _ _ _) ?_
   cases h1:win who 1 9
   ·try simp -implicitDefEqProofs (maxSteps:=1000000) only [go_sem,g0,h1,RecV.ok,RecV.body,RecV.who,g1,g2,g3]
    repeat refine ⟨sc,?_⟩
    try exact sf
   refine G0 ?_
   refine C0 (c_i_isWord _) ?_
   cases h2:win seq 0 65535
   ·try simp -implicitDefEqProofs (maxSteps:=1000000) only [go_sem,g0,h1,h2,RecV.ok,RecV.body,RecV.who,g1,g2,g3]
    repeat refine ⟨sc,?_⟩
    try exact sf
    try rfl
   refine G0 ?_
   refine .of (c_i_within _ _ _) ?_
   try simp -implicitDefEqProofs (maxSteps:=1000000) only [go_sem,g0,h1,h2,RecV.ok,RecV.body,RecV.who,g1,g2,g3]
   repeat refine ⟨sc,?_⟩
   try exact sf
  ·refine G1 g0 ?_
   cases h1:(seq==0)
   ·try simp -implicitDefEqProofs (maxSteps:=1000000) only [go_sem,g0,h1,RecV.ok,RecV.body,RecV.who,g1,g2,g3]
    repeat refine ⟨sc,?_⟩
    try exact sf
   refine G1 h1 ?_
   cases h2:(code==0)
   ·try simp -implicitDefEqProofs (maxSteps:=1000000) only [go_sem,g0,h1,h2,RecV.ok,RecV.body,RecV.who,g1,g2,g3]
    repeat refine ⟨sc,?_⟩
    try exact sf
    try rfl
   try simp -implicitDefEqProofs (maxSteps:=1000000) only [go_sem,g0,h1,h2,RecV.ok,RecV.body,RecV.who,g1,g2,g3]
   repeat refine ⟨sc,?_⟩
   try exact sf
   try rfl
 by_cases q4:kind=4
 ·subst q4
  refine G0 ?_
  cases g1:R.no
  ·refine G1 g1 ?_
   cases g0:(who==0)
   ·try simp -implicitDefEqProofs (maxSteps:=1000000) only [go_sem,g0,RecV.ok,RecV.body,RecV.who,g1]
    repeat refine ⟨sc,?_⟩
    try exact sf
   ·try simp -implicitDefEqProofs (maxSteps:=1000000) only [go_sem,g0,RecV.ok,RecV.body,RecV.who,g1]
    repeat refine ⟨sc,?_⟩
    try exact sf
  refine G1 g1 ?_
  cases g2:decide (key=⟨#[]⟩)
  ·refine G2 g1 g2 ?_
   cases g0:(who==0)
   ·try simp -implicitDefEqProofs (maxSteps:=1000000) only [go_sem,g0,RecV.ok,RecV.body,RecV.who,g1,g2]
    repeat refine ⟨sc,?_⟩
    try exact sf
   ·try simp -implicitDefEqProofs (maxSteps:=1000000) only [go_sem,g0,RecV.ok,RecV.body,RecV.who,g1,g2]
    repeat refine ⟨sc,?_⟩
    try exact sf
  refine G1 g2 ?_
  cases g3:(n==0)
  ·refine G3 g1 g2 g3 ?_
   cases g0:(who==0)
   ·try simp -implicitDefEqProofs (maxSteps:=1000000) only [go_sem,g0,RecV.ok,RecV.body,RecV.who,g1,g2,g3]
    repeat refine ⟨sc,?_⟩
    try exact sf
   ·try simp -implicitDefEqProofs (maxSteps:=1000000) only [go_sem,g0,RecV.ok,RecV.body,RecV.who,g1,g2,g3]
    repeat refine ⟨sc,?_⟩
    try exact sf
  refine G1 g3 ?_
  cases g0:(who==0)
  ·have g9:(who != 0)=true:=by rw [bne,g0]; rfl
   refine G2 g0 g9 ?_
   refine C0 (c_i_within _ _ _) ?_
   cases h1:win who 1 9
   ·try simp -implicitDefEqProofs (maxSteps:=1000000) only [go_sem,g0,h1,RecV.ok,RecV.body,RecV.who,g1,g2,g3]
    repeat refine ⟨sc,?_⟩
    try exact sf
   refine G0 ?_
   refine C0 (c_i_isWord _) ?_
   cases h2:win seq 0 65535
   ·try simp -implicitDefEqProofs (maxSteps:=1000000) only [go_sem,g0,h1,h2,RecV.ok,RecV.body,RecV.who,g1,g2,g3]
    repeat refine ⟨sc,?_⟩
    try exact sf
    try rfl
   refine G0 ?_
   refine .of (c_i_within _ _ _) ?_
   try simp -implicitDefEqProofs (maxSteps:=1000000) only [go_sem,g0,h1,h2,RecV.ok,RecV.body,RecV.who,g1,g2,g3]
   repeat refine ⟨sc,?_⟩
   try exact sf
  ·have g9:(who != 0)=false:=by rw [bne,g0]; rfl
   refine G2 g0 g9 ?_
   cases h1:(seq==0)
   ·try simp -implicitDefEqProofs (maxSteps:=1000000) only [go_sem,g0,h1,RecV.ok,RecV.body,RecV.who,g1,g2,g3]
    repeat refine ⟨sc,?_⟩
    try exact sf
   cases h2:(code==0)
   ·try simp -implicitDefEqProofs (maxSteps:=1000000) only [go_sem,g0,h1,h2,RecV.ok,RecV.body,RecV.who,g1,g2,g3]
    repeat refine ⟨sc,?_⟩
    try exact sf
    try rfl
   try simp -implicitDefEqProofs (maxSteps:=1000000) only [go_sem,g0,h1,h2,RecV.ok,RecV.body,RecV.who,g1,g2,g3]
   repeat refine ⟨sc,?_⟩
   try exact sf
   try rfl
 obtain ⟨k1,k2,k3,k4⟩:=other_kind q1 q2 q3 q4
 refine G4 k1 k2 k3 k4 ?_
 cases g0:(who==0)
 ·try simp -implicitDefEqProofs (maxSteps:=1000000) only [go_sem,g0,RecV.ok,RecV.body,RecV.who,k1,k2,k3,k4]
  repeat refine ⟨sc,?_⟩
  try exact sf
 ·try simp -implicitDefEqProofs (maxSteps:=1000000) only [go_sem,g0,RecV.ok,RecV.body,RecV.who,k1,k2,k3,k4]
  repeat refine ⟨sc,?_⟩
  try exact sf
def x_i_putRec:FnX:=⟨46,[.cell 6 (some 13),.tmp 7],
  .q [.v 3 0,.op 6 (.alloc [.i 0,.e,.i 0,.nils 1,.i 0,.nils 1,.i 0,.F,.e,.i 0,.i 0,.i 0,.i 0]),.i 7 0]
 (.q [.f 11 3 0,.f 12 11 4,.f 13 12 1,.l 14 13,.m 15 1,.f 16 3 9,.l 17 16,.m 18 2,.c 19 158 [14,15,17,18],.m 10 19,.e 20 10 0,.e 21 10 1,.op 8 (.alloc [.e,.i 0,.nils 1,.i 0,.nils 1,.i 0,.F]),.s 100001 7 8 20,.m 9 21]
 (.seq (.q [.m 22 9,.B 23 .eql 22 0,.m 24 23,.y 24 (.f 25 3 0),.y 24 (.f 26 25 4),.y 24 (.L 27 3 26),.y 24 (.m 28 1),.y 24 (.c 29 59 [27,28]),.y 24 (.B 30 .lss 29 0),.a 31 24 30,.m 32 31,.y 32 (.f 33 3 0),.y 32 (.f 34 33 4),.y 32 (.f 35 34 0),.y 32 (.l 36 35),.y 32 (.n 37 36),.y 32 (.B 38 .eql 37 8),.a 39 32 38]
 (.c 39 (.reg [.i 9 5])))
 (.seq (.q [.m 40 9,.B 41 .neq 40 0]
 (.c 41 (.q [.op 42 (.build [.i 0,.e,.i 0,.nils 1,.i 0,.nils 1,.i 0,.F,.e,.i 0,.i 0,.i 0,.i 0] [(0,1,(.i 4))]),.m 43 9,.s 100002 13 6 42,.m 7 43]
 .ret)))
 (.q [.L 44 7 8,.op 45 (.build [.i 0,.e,.i 0,.nils 1,.i 0,.nils 1,.i 0,.F,.e,.i 0,.i 0,.i 0,.i 0] [(0,1,(.i 1)),(1,7,(.t 44))]),.s 100003 13 6 45,.i 7 0]
 .ret))))⟩
theorem r_i_putRec {Te:TE} (c_i_RowOf:C_i_RowOf Te) (c_i_RowAt:C_i_RowAt Te):C_i_putRec (RF Te x_i_putRec):=by
 intro n key s hn hk hs
 refine X0 x_i_putRec.eq_1 ?_
 refine C0 (c_i_RowOf n.S.T.Phase key n.Cs s hk hs) ?_
 cases g1:((rowOf n.S.T.Phase key n.Cs s).2==0)
 ·have e:n.putCode key s=(rowOf n.S.T.Phase key n.Cs s).2:=by rw [NodeV.putCode,g1]; rfl
  have g2:((rowOf n.S.T.Phase key n.Cs s).2 != 0)=true:=by rw [bne_eq,g1]; rfl
  try simp -implicitDefEqProofs (maxSteps:=1000000) only [go_sem,g1,g2,e,putRecV,take_rows]
  repeat refine ⟨sc,?_⟩
  try exact sf
  try rfl
 ·have g0:(rowOf n.S.T.Phase key n.Cs s).2=0:=eq_of_beq g1
  refine G1 g1 ?_
  refine C0 (c_i_RowAt n.S.T key hn) ?_
  cases g2:decide (rowAt n.S.T.Rows key < 0)
  ·have e:n.putCode key s=0:=by rw [NodeV.putCode,g1,g2]; exact g0
   try simp -implicitDefEqProofs (maxSteps:=1000000) only [go_sem,g0,g2,e,putRecV,recRowBy,take_rows]
   repeat refine ⟨sc,?_⟩
   try exact sf
   try rfl
  ·cases g3:((n.S.T.Rows.length:Int)==8)
   ·have e:n.putCode key s=0:=by rw [NodeV.putCode,g1,g2,g3]; exact g0
    try simp -implicitDefEqProofs (maxSteps:=1000000) only [go_sem,g0,g2,g3,e,putRecV,recRowBy,take_rows]
    repeat refine ⟨sc,?_⟩
    try exact sf
    try rfl
   ·have e:n.putCode key s=5:=by rw [NodeV.putCode,g1,g2,g3]; rfl
    try simp -implicitDefEqProofs (maxSteps:=1000000) only [go_sem,g2,g3,e,putRecV,recRowBy,take_rows]
    repeat refine ⟨sc,?_⟩
    try exact sf
    try rfl
def x_i_NodePut:FnX:=⟨54,[.cell 10 (some 10),.tmp 11,.tmp 12],
  .q [.v 5 0,.op 10 (.alloc [.nils 1,.nils 2,.i 0,.F,.nils 7,.i 0,.nils 3,.i 0,.i 0,.i 0]),.i 11 0,.F 12]
 (.seq (.q [.L 16 10 5,.c 17 58 [16],.N 18 17,.m 19 18,.z 19 (.m 20 1),.z 19 (.m 21 2),.z 19 (.c 22 62 [20,21]),.z 19 (.N 23 22),.r 24 19 23]
 (.c 24 (.q [.L 25 10 5,.c 26 28 [25],.s 100001 10 10 26,.i 11 1,.F 12]
 .ret)))
 (.q [.L 28 10 5,.m 29 1,.m 30 2,.c 31 105 [28,29,30],.m 27 31,.e 32 27 0,.e 33 27 1,.m 13 32,.m 14 33]
 (.seq (.q [.m 34 14]
 (.c 34 (.q [.L 35 10 5,.c 36 28 [35],.m 37 13,.s 100002 10 10 36,.m 11 37,.F 12]
 .ret)))
 (.q [.L 39 10 5,.m 40 3,.m 41 4,.c 42 108 [39,40,41],.m 38 42,.e 43 38 0,.e 44 38 1,.op 15 (.alloc [.i 0,.e,.i 0,.nils 1,.i 0,.nils 1,.i 0,.F,.e,.i 0,.i 0,.i 0,.i 0]),.s 100003 13 15 43,.m 13 44]
 (.q [.L 45 10 5,.m 46 1,.m 47 2,.L 48 13 15,.m 49 13,.c 50 107 [45,46,47,48,49],.e 51 50 0,.e 52 50 1,.e 53 50 2,.s 100004 10 10 51,.m 11 52,.m 12 53]
 .ret)))))⟩
theorem r_i_NodePut {Te:TE} (c_i_isUp:C_i_isUp Te) (c_i_mayAsk:C_i_mayAsk Te) (c_i_copyNode:C_i_copyNode Te) (c_i_askedBefore:C_i_askedBefore Te) (c_i_putRec:C_i_putRec Te) (c_i_change:C_i_change Te):C_i_NodePut (RF Te x_i_NodePut):=by
 intro n who seq key s hn hk hs
 have hL:=hn.len (by decide)
 refine X0 x_i_NodePut.eq_1 ?_
 refine C0 (c_i_isUp n (hn.mono (by decide))) ?_
 cases g1:n.up
 ·have e:n.putIn who seq key s=(n,1,false):=by rw [NodeV.putIn,old_no (by rw [g1]; rfl)]; rfl
  refine G0 ?_
  exact D1 (c_i_copyNode n hL) e
 refine G0 ?_
 refine C0 (c_i_mayAsk _ _) ?_
 cases g2:(win who 1 9&&win seq 1 65535)
 ·have e:n.putIn who seq key s=(n,1,false):=by rw [NodeV.putIn,old_no (by rw [g1,g2]; rfl)]; rfl
  refine G1 g2 ?_
  exact D1 (c_i_copyNode n hL) e
 have eo:=old_yes g1 g2
 refine G1 g2 ?_
 refine .of (c_i_askedBefore n _ _ (by have:=hn.2.2; omega)) ?_
 try simp -implicitDefEqProofs (maxSteps:=1000000) only [go_sem]
 repeat refine ⟨sc,?_⟩
 try exact sf
 rw [← eo]
 cases g3:(n.old who seq).2
 rotate_left
 ·have e:n.putIn who seq key s=(n,(n.old who seq).1,false):=by rw [NodeV.putIn,g3]; rfl
  refine G1 g3 ?_
  exact D1 (c_i_copyNode n hL) e
 have e:n.putIn who seq key s=n.changed ((putRecV n key s).by who seq (n.putCode key s)):=by rw [NodeV.putIn,g3,putRec_by]; rfl
 refine G1 g3 ?_
 refine C0 (c_i_putRec n key s (by have:=hn.2.1.1; omega) hk hs) ?_
 exact D1 (c_i_change n who seq (putRecV n key s) (n.putCode key s) hn (putRec_in hk)) e
def x_s_l15End:FnX:=⟨29,[.cell 4 (some 10),.tmp 5,.tmp 6],
  .q [.v 2 0,.v 3 1,.op 4 (.alloc [.nils 1,.nils 2,.i 0,.F,.nils 7,.i 0,.nils 3,.i 0,.i 0,.i 0]),.i 5 0,.F 6]
 (.q [.L 9 10 2,.c 10 22 [9],.op 7 (.alloc [.nils 1,.nils 2,.i 0,.F,.nils 7,.i 0,.nils 3,.i 0,.i 0,.i 0]),.s 100001 10 7 10]
 (.q [.f 11 3 12,.l 12 11,.m 8 12]
 (.seq (.q [.m 13 8,.B 14 .neq 13 0]
 (.c 14 (.reg [.f 15 3 10,.l 16 15,.f 17 3 11,.l 18 17,.f 19 3 12,.l 20 19,.op 21 (.build [.i 0,.e,.i 0,.nils 1,.i 0,.nils 1,.i 0,.F,.e,.i 0,.i 0,.i 0,.i 0] [(0,1,(.i 4)),(10,1,(.t 16)),(11,1,(.t 18)),(12,1,(.t 20))]),.s 100002 13 3 21])))
 (.seq (.q [.f 22 7 0,.L 23 13 3,.op 24 (.call 90 [11,0] [(.t 22),(.t 23)]),.N 25 24]
 (.c 25 (.q [.L 26 10 7,.s 100003 10 4 26,.i 5 5,.F 6]
 .ret)))
 (.q [.L 27 10 7,.m 28 8,.s 100004 10 4 27,.m 5 28,.T 6]
 .ret)))))⟩
theorem r_s_l15End {Te:TE} (c_s_l15Copy:C_s_l15Copy Te) (c_s_l13Add:C_s_l13Add Te):C_s_l15End (RF Te x_s_l15End):=by
 intro n r hu hn hr
 have hL:=hn.len (by decide)
 obtain ⟨k1,k2,_⟩:=up_ok hu
 refine X0 x_s_l15End.eq_1 ?_
 refine C0 (c_s_l15Copy n hL) ?_
 cases g:(r.Code != 0)
 ·have e1:=told_self g
  refine G1 g ?_
  refine C0 (c_s_l13Add n.S r k1 k2 hn.2 hr) ?_
  cases g2:(n.S.add r).2
  ·try simp -implicitDefEqProofs (maxSteps:=1000000) only [go_sem,g2,e1,NodeV.changed,NodeV.added,NodeV.enc,take_all,take_marks]
   repeat refine ⟨sc,?_⟩
   try exact sf
   try rfl
  ·try simp -implicitDefEqProofs (maxSteps:=1000000) only [go_sem,g2,e1,NodeV.changed,NodeV.added,NodeV.enc,take_all,take_marks]
   repeat refine ⟨sc,?_⟩
   try exact sf
   try rfl
 ·have e1:=told_who g
  have ec:r.told.Code=r.Code:=by rw [e1]; rfl
  refine G1 g ?_
  refine C0 (c_s_l13Add n.S (recWho r.Who r.Seq r.Code) k1 k2 hn.2 (recWho_in _ _ _ _)) ?_
  cases g2:(n.S.add (recWho r.Who r.Seq r.Code)).2
  ·try simp -implicitDefEqProofs (maxSteps:=1000000) only [go_sem,g2,e1,NodeV.changed,NodeV.added,NodeV.enc,take_all,take_marks]
   repeat refine ⟨sc,?_⟩
   try exact sf
   try rfl
  ·try simp -implicitDefEqProofs (maxSteps:=1000000) only [go_sem,g2,e1,NodeV.changed,NodeV.added,NodeV.enc,take_all,take_marks]
   repeat refine ⟨sc,?_⟩
   try exact sf
   try rfl
def x_s_NodeDel:FnX:=⟨44,[.cell 8 (some 10),.tmp 9,.tmp 10],
  .q [.v 4 0,.op 8 (.alloc [.nils 1,.nils 2,.i 0,.F,.nils 7,.i 0,.nils 3,.i 0,.i 0,.i 0]),.i 9 0,.F 10]
 (.q [.L 15 10 4,.m 16 1,.m 17 2,.c 18 134 [15,16,17],.m 14 18,.e 19 14 0,.e 20 14 1,.m 11 19,.m 12 20]
 (.seq (.q [.m 21 12]
 (.c 21 (.q [.L 22 10 4,.c 23 22 [22],.m 24 11,.s 100001 10 8 23,.m 9 24,.F 10]
 .ret)))
 (.q [.i 13 0]
 (.seq (.q [.m 25 3,.c 26 137 [25],.N 27 26]
 (.cond 27 (.reg [.i 13 1]) (.q [.f 28 4 0,.f 29 28 4,.L 30 3 29,.m 31 3,.c 32 132 [30,31],.B 33 .lss 32 0]
 (.c 33 (.reg [.i 13 2])))))
 (.q [.L 34 10 4,.m 35 3,.m 36 1,.m 37 2,.m 38 13,.op 39 (.build [.i 0,.e,.i 0,.nils 1,.i 0,.nils 1,.i 0,.F,.e,.i 0,.i 0,.i 0,.i 0] [(0,1,(.i 2)),(8,1,(.t 35)),(10,1,(.t 36)),(11,1,(.t 37)),(12,1,(.t 38))]),.c 40 136 [34,39],.e 41 40 0,.e 42 40 1,.e 43 40 2,.s 100002 10 8 41,.m 9 42,.m 10 43]
 .ret)))))⟩
theorem r_s_NodeDel {Te:TE} (c_s_l15Old:C_s_l15Old Te) (c_s_l15Copy:C_s_l15Copy Te) (c_s_NameOk:C_s_NameOk Te) (c_s_RowAt:C_s_RowAt Te) (c_s_l15End:C_s_l15End Te):C_s_NodeDel (RF Te x_s_NodeDel):=by
 intro n who seq key hn hk
 have hL:=hn.len (by decide)
 refine X0 x_s_NodeDel.eq_1 ?_
 refine C0 (c_s_l15Old n _ _ (hn.mono (by decide))) ?_
 cases g3:(n.old who seq).2
 rotate_left
 ·have e:n.del who seq key=(n,(n.old who seq).1,false):=by rw [NodeV.del,g3]; rfl
  refine G1 g3 ?_
  exact D1 (c_s_l15Copy n hL) e
 have e:n.del who seq key=n.changed ((RecV.mk 2 RowV.zero key 0 who seq (n.delCode key)).told):=by rw [NodeV.del,g3]; rfl
 have hu:n.up=true:=by
  cases g:n.up
  ·rw [NodeV.old,g] at g3; cases g3
  ·rfl
 have hr:(RecV.mk 2 RowV.zero key 0 who seq (n.delCode key)).In (2 ^ 20):=⟨RowV.zero_in _,hk⟩
 have tl:=c_s_l15End n _ hu hn hr
 refine G1 g3 ?_
 refine C0 (c_s_NameOk key (by omega)) ?_
 cases g1:nameOk key
 ·have ec:n.delCode key=1:=by rw [NodeV.delCode,g1]; rfl
  rw [ec] at tl e
  refine G0 ?_
  exact D1 (tl) e
 refine G0 ?_
 refine C0 (c_s_RowAt n.S.T key (by have:=hn.2.1.1; omega)) ?_
 cases g2:decide (rowAt n.S.T.Rows key < 0)
 ·have ec:n.delCode key=0:=by rw [NodeV.delCode,g1,g2]; rfl
  rw [ec] at tl e
  refine G1 g2 ?_
  exact D1 (tl) e
 ·have ec:n.delCode key=2:=by rw [NodeV.delCode,g1,g2]; rfl
  rw [ec] at tl e
  refine G1 g2 ?_
  exact D1 (tl) e
def x_s_NodePut:FnX:=⟨68,[.cell 10 (some 10),.tmp 11,.tmp 12],
  .q [.v 5 0,.op 10 (.alloc [.nils 1,.nils 2,.i 0,.F,.nils 7,.i 0,.nils 3,.i 0,.i 0,.i 0]),.i 11 0,.F 12]
 (.q [.L 18 10 5,.m 19 1,.m 20 2,.c 21 134 [18,19,20],.m 17 21,.e 22 17 0,.e 23 17 1,.m 13 22,.m 14 23]
 (.seq (.q [.m 24 14]
 (.c 24 (.q [.L 25 10 5,.c 26 22 [25],.m 27 13,.s 100001 10 10 26,.m 11 27,.F 12]
 .ret)))
 (.q [.f 29 5 0,.f 30 29 4,.f 31 30 1,.l 32 31,.m 33 3,.f 34 5 9,.l 35 34,.m 36 4,.c 37 135 [32,33,35,36],.m 28 37,.e 38 28 0,.e 39 28 1,.op 15 (.alloc [.e,.i 0,.nils 1,.i 0,.nils 1,.i 0,.F]),.s 100002 7 15 38,.m 16 39]
 (.seq (.q [.m 40 16,.B 41 .eql 40 0,.m 42 41,.y 42 (.f 43 5 0),.y 42 (.f 44 43 4),.y 42 (.L 45 3 44),.y 42 (.m 46 3),.y 42 (.c 47 132 [45,46]),.y 42 (.B 48 .lss 47 0),.a 49 42 48,.m 50 49,.y 50 (.f 51 5 0),.y 50 (.f 52 51 4),.y 50 (.f 53 52 0),.y 50 (.l 54 53),.y 50 (.n 55 54),.y 50 (.B 56 .geq 55 8),.a 57 50 56]
 (.c 57 (.reg [.i 16 5])))
 (.q [.L 58 10 5,.L 59 7 15,.m 60 1,.m 61 2,.m 62 16,.op 63 (.build [.i 0,.e,.i 0,.nils 1,.i 0,.nils 1,.i 0,.F,.e,.i 0,.i 0,.i 0,.i 0] [(0,1,(.i 1)),(1,7,(.t 59)),(10,1,(.t 60)),(11,1,(.t 61)),(12,1,(.t 62))]),.c 64 136 [58,63],.e 65 64 0,.e 66 64 1,.e 67 64 2,.s 100003 10 10 65,.m 11 66,.m 12 67]
 .ret)))))⟩
theorem r_s_NodePut {Te:TE} (c_s_l15Old:C_s_l15Old Te) (c_s_l15Copy:C_s_l15Copy Te) (c_s_RowOf:C_s_RowOf Te) (c_s_RowAt:C_s_RowAt Te) (c_s_l15End:C_s_l15End Te):C_s_NodePut (RF Te x_s_NodePut):=by
 intro n who seq key s hn hk hs
 have hL:=hn.len (by decide)
 refine X0 x_s_NodePut.eq_1 ?_
 refine C0 (c_s_l15Old n _ _ (hn.mono (by decide))) ?_
 cases g3:(n.old who seq).2
 rotate_left
 ·have e:n.putIn who seq key s=(n,(n.old who seq).1,false):=by rw [NodeV.putIn,g3]; rfl
  refine G1 g3 ?_
  exact D1 (c_s_l15Copy n hL) e
 have e:n.putIn who seq key s=n.changed ((recRowBy (rowOf n.S.T.Phase key n.Cs s).1 who seq (n.putCode key s)).told):=by rw [NodeV.putIn,g3]; rfl
 have hu:n.up=true:=by
  cases g:n.up
  ·rw [NodeV.old,g] at g3; cases g3
  ·rfl
 have h8:n.S.T.Rows.length≤8:=by
  have:=NodeV.up_tab hu
  simp only [TabV.ok,Bool.and_eq_true,decide_eq_true_eq] at this
  have:=this.2.1
  omega
 have hr:(recRowBy (rowOf n.S.T.Phase key n.Cs s).1 who seq (n.putCode key s)).In (2 ^ 20):=⟨rowOf_in hk,Nat.zero_le _⟩
 have tl:=c_s_l15End n _ hu hn hr
 refine G1 g3 ?_
 refine C0 (c_s_RowOf n.S.T.Phase key n.Cs s hk hs) ?_
 cases g1:((rowOf n.S.T.Phase key n.Cs s).2==0)
 ·have ec:n.putCode key s=(rowOf n.S.T.Phase key n.Cs s).2:=by rw [NodeV.putCode,g1]; rfl
  rw [ec] at tl e
  refine G1 g1 ?_
  exact D1 (tl) e
 have g0:(rowOf n.S.T.Phase key n.Cs s).2=0:=eq_of_beq g1
 refine G1 g1 ?_
 refine C0 (c_s_RowAt n.S.T key (by have:=hn.2.1.1; omega)) ?_
 cases g2:decide (rowAt n.S.T.Rows key < 0)
 ·have ec:n.putCode key s=(rowOf n.S.T.Phase key n.Cs s).2:=by rw [NodeV.putCode,g1,g2]; rfl
  rw [ec] at tl e
  refine G1 g2 ?_
  exact D1 (tl) e
 ·cases g3:((n.S.T.Rows.length:Int)==8)
  ·have ec:n.putCode key s=(rowOf n.S.T.Phase key n.Cs s).2:=by rw [NodeV.putCode,g1,g2,g3]; rfl
   have g4:decide ((n.S.T.Rows.length:Int)≥8)=false:=by simp only [beq_eq_false_iff_ne] at g3; exact decide_eq_false (by omega)
   rw [ec] at tl e
   refine G2 g2 g4 ?_
   exact D1 (tl) e
  ·have ec:n.putCode key s=5:=by rw [NodeV.putCode,g1,g2,g3]; rfl
   have g4:decide ((n.S.T.Rows.length:Int)≥8)=true:=by simp only [beq_iff_eq] at g3; exact decide_eq_true (by omega)
   rw [ec] at tl e
   refine G2 g2 g4 ?_
   exact D1 (tl) e
def x_i_FillRow:FnX:=⟨31,[.cell 2 (some 7)],
  .q [.v 1 0,.op 2 (.alloc [.e,.i 0,.nils 1,.i 0,.nils 1,.i 0,.F])]
 (.q [.L 6 7 1,.c 7 153 [6],.op 3 (.alloc [.e,.i 0,.nils 1,.i 0,.nils 1,.i 0,.F]),.s 100001 7 3 7]
 (.seq (.q [.L 8 7 1,.c 9 165 [8],.N 10 9,.m 11 10,.z 11 (.f 12 1 5),.z 11 (.l 13 12),.z 11 (.B 14 .neq 13 1),.r 15 11 14]
 (.c 15 (.q [.L 16 7 3,.s 100002 7 2 16]
 .ret)))
 (.q [.f 18 1 1,.L 19 2 18,.op 20 (.call 166 [0,0] [(.t 19),(.i 0)]),.m 17 20,.e 21 17 0,.e 22 17 1,.op 4 (.alloc [.i 0,.nils 1]),.s 100003 2 4 21,.m 5 22]
 (.seq (.q [.m 23 5,.N 24 23]
 (.c 24 (.q [.f 25 3 6,⟨none,none,100004,.store 1 (.t 25) .T⟩]
 (.q [.L 26 7 3,.s 100005 7 2 26]
 .ret))))
 (.q [.L 27 2 4,.f 28 3 3,.s 100006 2 28 27,.f 29 3 5,⟨none,none,100007,.store 1 (.t 29) (.i 3)⟩]
 (.q [.L 30 7 3,.s 100008 7 2 30]
 .ret))))))⟩
theorem r_i_FillRow {Te:TE} (c_i_copyRow:C_i_copyRow Te) (c_i_RowOk:C_i_RowOk Te) (c_i_Turn:C_i_Turn Te):C_i_FillRow (RF Te x_i_FillRow):=by
 intro r h
 have hL:=h.len (by decide)
 refine X0 x_i_FillRow.eq_1 ?_
 refine C0 (c_i_copyRow r hL) ?_
 refine C0 (c_i_RowOk r (h.mono (by decide))) ?_
 cases g1:r.ok
 ·have e:=fill_no (r:=r) (by rw [g1]; rfl)
  exact F1 e
 cases g2:(r.Has==1)
 ·have e:=fill_no (r:=r) (by rw [g1,g2]; rfl)
  try simp -implicitDefEqProofs (maxSteps:=1000000) only [go_sem,bne_eq,g2,e,take_rows]
  repeat refine ⟨sc,?_⟩
  try exact sf
  try rfl
 have g3:(r.ok&&(r.Has==1))=true:=by rw [g1,g2]; rfl
 try simp -implicitDefEqProofs (maxSteps:=1000000) only [go_sem,bne_eq,g2,take_rows]
 repeat refine ⟨sc,?_⟩
 try exact sf
 refine C0 (c_i_Turn r.Old 0 hL.1 (Nat.le_trans text_size (by decide))) ?_
 cases g4:(r.Old.turn 0).2
 ·have e:=fill_bad g3 g4
  exact F2 g4 e
 ·have e:=fill_yes g3 g4
  exact F2 g4 e
def x_s_FillRow:FnX:=⟨30,[.cell 2 (some 7)],
  .q [.v 1 0,.op 2 (.alloc [.e,.i 0,.nils 1,.i 0,.nils 1,.i 0,.F])]
 (.q [.L 6 7 1,.c 7 131 [6],.op 3 (.alloc [.e,.i 0,.nils 1,.i 0,.nils 1,.i 0,.F]),.s 100001 7 3 7]
 (.seq (.q [.L 8 7 1,.c 9 174 [8],.N 10 9,.m 11 10,.z 11 (.L 12 7 1),.z 11 (.c 13 177 [12]),.r 14 11 13]
 (.c 14 (.q [.L 15 7 3,.s 100002 7 2 15]
 .ret)))
 (.q [.f 17 1 1,.L 18 2 17,.op 19 (.call 190 [0,0] [(.t 18),(.i 0)]),.m 16 19,.e 20 16 0,.e 21 16 1,.op 4 (.alloc [.i 0,.nils 1]),.s 100003 2 4 20,.m 5 21]
 (.seq (.q [.m 22 5,.N 23 22]
 (.c 23 (.q [.f 24 3 6,⟨none,none,100004,.store 1 (.t 24) .T⟩]
 (.q [.L 25 7 3,.s 100005 7 2 25]
 .ret))))
 (.q [.L 26 2 4,.f 27 3 3,.s 100006 2 27 26]
 (.q [.f 28 3 5,⟨none,none,100007,.store 1 (.t 28) (.i 3)⟩]
 (.q [.L 29 7 3,.s 100008 7 2 29]
 .ret)))))))⟩
theorem r_s_FillRow {Te:TE} (c_s_l9Copy:C_s_l9Copy Te) (c_s_RowOk:C_s_RowOk Te) (c_s_l9New:C_s_l9New Te) (c_s_Turn:C_s_Turn Te):C_s_FillRow (RF Te x_s_FillRow):=by
 intro r h
 have hL:=h.len (by decide)
 refine X0 x_s_FillRow.eq_1 ?_
 refine C0 (c_s_l9Copy r hL) ?_
 refine C0 (c_s_RowOk r (h.mono (by decide))) ?_
 cases g1:r.ok
 ·have e:=fill_no (r:=r) (by rw [g1]; rfl)
  exact F1 e
 refine G0 ?_
 refine C0 (c_s_l9New r (rowOk_13 g1)) ?_
 cases g2:(r.Has==1)
 ·have e:=fill_no (r:=r) (by rw [g1,g2]; rfl)
  have g5:decide (r.Has≠1)=true:=decide_eq_true (by simpa using g2)
  exact F2 g5 e
 have g3:(r.ok&&(r.Has==1))=true:=by rw [g1,g2]; rfl
 have g5:decide (r.Has≠1)=false:=decide_eq_false (by simpa using g2)
 refine G1 g5 ?_
 refine C0 (c_s_Turn r.Old 0 hL.1 (Nat.le_trans text_size (by decide))) ?_
 cases g4:(r.Old.turn 0).2
 ·have e:=fill_bad g3 g4
  exact F2 g4 e
 ·have e:=fill_yes g3 g4
  exact F2 g4 e
def x_i_CutRow:FnX:=⟨18,[.cell 2 (some 7)],
  .q [.v 1 0,.op 2 (.alloc [.e,.i 0,.nils 1,.i 0,.nils 1,.i 0,.F])]
 (.q [.L 4 7 1,.c 5 153 [4],.op 3 (.alloc [.e,.i 0,.nils 1,.i 0,.nils 1,.i 0,.F]),.s 100001 7 3 5]
 (.seq (.q [.L 6 7 1,.c 7 165 [6],.m 8 7,.y 8 (.f 9 1 5),.y 8 (.l 10 9),.y 8 (.B 11 .neq 10 1),.a 12 8 11]
 (.c 12 (.reg [.op 13 (.build [.i 0,.nils 1] []),.f 14 3 1,.s 100002 2 14 13,.f 15 3 5,⟨none,none,100003,.store 1 (.t 15) (.i 2)⟩,.f 16 3 6,⟨none,none,100004,.store 1 (.t 16) .F⟩])))
 (.q [.L 17 7 3,.s 100005 7 2 17]
 .ret)))⟩
theorem r_i_CutRow {Te:TE} (c_i_copyRow:C_i_copyRow Te) (c_i_RowOk:C_i_RowOk Te):C_i_CutRow (RF Te x_i_CutRow):=by
 intro r h
 have hL:=h.len (by decide)
 refine X0 x_i_CutRow.eq_1 ?_
 refine C0 (c_i_copyRow r hL) ?_
 refine C0 (c_i_RowOk r (h.mono (by decide))) ?_
 cases g1:r.ok
 ·have e:=cut_no (r:=r) (by rw [g1]; rfl)
  exact F1 e
 cases g2:(r.Has==1)
 ·have e:=cut_yes (r:=r) (by rw [g1,g2]; rfl)
  try simp -implicitDefEqProofs (maxSteps:=1000000) only [go_sem,bne_eq,g2,e,take_rows]
  repeat refine ⟨sc,?_⟩
  try exact sf
  try rfl
 ·have e:=cut_no (r:=r) (by rw [g1,g2]; rfl)
  try simp -implicitDefEqProofs (maxSteps:=1000000) only [go_sem,bne_eq,g2,e,take_rows]
  repeat refine ⟨sc,?_⟩
  try exact sf
  try rfl
def x_s_CutRow:FnX:=⟨20,[.cell 2 (some 7)],
  .q [.v 1 0,.op 2 (.alloc [.e,.i 0,.nils 1,.i 0,.nils 1,.i 0,.F])]
 (.q [.L 4 7 1,.c 5 131 [4],.op 3 (.alloc [.e,.i 0,.nils 1,.i 0,.nils 1,.i 0,.F]),.s 100001 7 3 5]
 (.seq (.q [.L 6 7 1,.c 7 174 [6],.N 8 7,.m 9 8,.z 9 (.L 10 7 1),.z 9 (.c 11 177 [10]),.z 9 (.N 12 11),.r 13 9 12]
 (.c 13 (.q [.L 14 7 3,.s 100002 7 2 14]
 .ret)))
 (.q [.f 15 1 0,.l 16 15,.f 17 3 3,.L 18 2 17,.op 19 (.build [.e,.i 0,.nils 1,.i 0,.nils 1,.i 0,.F] [(0,1,(.t 16)),(3,2,(.t 18)),(5,1,(.i 2))]),.s 100003 7 2 19]
 .ret)))⟩
theorem r_s_CutRow {Te:TE} (c_s_l9Copy:C_s_l9Copy Te) (c_s_RowOk:C_s_RowOk Te) (c_s_l9New:C_s_l9New Te):C_s_CutRow (RF Te x_s_CutRow):=by
 intro r h
 have hL:=h.len (by decide)
 refine X0 x_s_CutRow.eq_1 ?_
 refine C0 (c_s_l9Copy r hL) ?_
 refine C0 (c_s_RowOk r (h.mono (by decide))) ?_
 cases g1:r.ok
 ·have e:=cut_no (r:=r) (by rw [g1]; rfl)
  exact F1 e
 refine G0 ?_
 refine C0 (c_s_l9New r (rowOk_13 g1)) ?_
 cases g2:(r.Has==1)
 ·have e:=cut_yes (r:=r) (by rw [g1,g2]; rfl)
  have g5:decide (r.Has≠1)=true:=decide_eq_true (by simpa using g2)
  exact F2 g5 e
 ·have e:=cut_no (r:=r) (by rw [g1,g2]; rfl)
  have g5:decide (r.Has≠1)=false:=decide_eq_false (by simpa using g2)
  exact F2 g5 e
def x_i_BackRow:FnX:=⟨24,[.cell 2 (some 7)],
  .q [.v 1 0,.op 2 (.alloc [.e,.i 0,.nils 1,.i 0,.nils 1,.i 0,.F])]
 (.q [.L 4 7 1,.c 5 153 [4],.op 3 (.alloc [.e,.i 0,.nils 1,.i 0,.nils 1,.i 0,.F]),.s 100001 7 3 5]
 (.seq (.block 0 (.q [.L 7 7 1,.c 8 165 [7],.N 9 8,.m 6 9]
 (.cond 6 .skip (.q [.f 11 1 5,.l 12 11,.B 13 .eql 12 3,.m 10 13]
 (.cond 10 (.reg [.op 14 (.build [.i 0,.nils 1] []),.f 15 3 3,.s 100002 2 15 14,.f 16 3 5,⟨none,none,100003,.store 1 (.t 16) (.i 1)⟩,.f 17 3 6,⟨none,none,100004,.store 1 (.t 17) .F⟩]) (.q [.f 19 1 5,.l 20 19,.B 21 .eql 20 2,.m 18 21]
 (.c 18 (.reg [.f 22 3 6,⟨none,none,100005,.store 1 (.t 22) .T⟩]))))))))
 (.q [.L 23 7 3,.s 100006 7 2 23]
 .ret)))⟩
theorem r_i_BackRow {Te:TE} (c_i_copyRow:C_i_copyRow Te) (c_i_RowOk:C_i_RowOk Te):C_i_BackRow (RF Te x_i_BackRow):=by
 intro r h
 have hL:=h.len (by decide)
 refine X0 x_i_BackRow.eq_1 ?_
 refine C0 (c_i_copyRow r hL) ?_
 refine C0 (c_i_RowOk r (h.mono (by decide))) ?_
 cases g1:r.ok
 ·have e:r.back=r:=by rw [RowV.back,g1]; rfl
  exact F1 e
 cases g3:(r.Has==3)
 ·cases g2:(r.Has==2)
  ·have e:r.back=r:=by rw [RowV.back,g1,g3,g2]; rfl
   exact F3 g3 g2 e
  ·have e:r.back=⟨r.Key,r.Old,r.New,r.Has,true⟩:=by rw [RowV.back,g1,g3,g2]; rfl
   exact F3 g3 g2 e
 ·have e:r.back=⟨r.Key,r.Old,⟨0,[]⟩,1,false⟩:=by rw [RowV.back,g1,g3]; rfl
  exact F2 g3 e
def x_l_szMsg:FnX:=⟨20,[.tmp 4],
  .q [.v 2 0,.i 4 0]
 (.q [.m 5 1,.f 6 2 4,.l 7 6,.op 8 (.slen (.t 7)),.b 9 .sub 5 8,.m 1 9]
 (.seq (.q [.m 10 1,.B 11 .lss 10 0]
 (.c 11 (.q [.i 4 (-1)]
 .ret)))
 (.q [.m 12 1,.f 13 2 5,.l 14 13,.op 15 (.slen (.t 14)),.b 16 .sub 12 15,.m 1 16]
 (.seq (.q [.m 17 1,.B 18 .lss 17 0]
 (.c 18 (.q [.i 4 (-1)]
 .ret)))
 (.q [.m 19 1,.m 4 19]
 .ret)))))⟩
theorem r_l_szMsg {Te:TE}:C_l_szMsg (RF Te x_l_szMsg):=by
 intro x k hx hk
 refine run0 ?_
 obtain ⟨h0,h1⟩:=hx
 simp -implicitDefEqProofs (maxSteps:=1000000) (disch:=omega) only [x_l_szMsg,go_sem,IntWalk.i64_in]
 refine ⟨fun q0=>?_,fun q0=>?_⟩
 ·simp only [decide_eq_true_eq] at q0
  simp only [szMsg,szAll,if_pos q0]
 ·simp only [decide_eq_false_iff_not] at q0
  have k1:0≤(k - (x.Key.size:Nat))∧(k - (x.Key.size:Nat))≤2 ^ 48:=⟨by omega,Int.le_trans (Sane.sub _ _ hk.1) hk.2⟩
  try simp -implicitDefEqProofs (maxSteps:=1000000) (disch:=omega) only [go_sem,IntWalk.i64_in]
  refine ⟨fun q1=>?_,fun q1=>?_⟩
  ·simp only [decide_eq_true_eq] at q1
   simp only [szMsg,szAll,if_neg q0,if_pos q1]
  ·simp only [decide_eq_false_iff_not] at q1
   have k2:0≤((k - (x.Key.size:Nat)) - (x.Text.size:Nat))∧((k - (x.Key.size:Nat)) - (x.Text.size:Nat))≤2 ^ 48:=⟨by omega,Int.le_trans (Sane.sub _ _ k1.1) k1.2⟩
   simp only [szMsg,szAll,if_neg q0,if_neg q1]
def x_l_toMsg_5:XCode:=.q [.L 28 8 3,.s 100009 8 2 28]
 .ret
def x_l_toMsg_4:XCode:=.q [.f 22 1 6,.l 23 22,.f 24 3 6,.s 100007 1 24 23]
 (.q [.f 25 1 7,.l 26 25,.f 27 3 7,.s 100008 1 27 26]
 x_l_toMsg_5)
def x_l_toMsg_3:XCode:=.q [.f 16 1 4,.l 17 16,.f 18 3 4,.s 100005 1 18 17]
 (.q [.f 19 1 5,.l 20 19,.f 21 3 5,.s 100006 1 21 20]
 x_l_toMsg_4)
def x_l_toMsg_2:XCode:=.q [.f 10 1 2,.l 11 10,.f 12 3 2,.s 100003 1 12 11]
 (.q [.f 13 1 3,.l 14 13,.f 15 3 3,.s 100004 1 15 14]
 x_l_toMsg_3)
def x_l_toMsg_1:XCode:=.q [.f 4 1 0,.l 5 4,.f 6 3 0,.s 100001 1 6 5]
 (.q [.f 7 1 1,.l 8 7,.f 9 3 1,.s 100002 1 9 8]
 x_l_toMsg_2)
def x_l_toMsg:FnX:=⟨29,[.cell 2 (some 8)],
  .q [.v 1 0,.op 2 (.alloc [.i 0,.i 0,.i 0,.i 0,.e,.e,.i 0,.i 0])]
 (.q [.op 3 (.alloc [.i 0,.i 0,.i 0,.i 0,.e,.e,.i 0,.i 0])]
 x_l_toMsg_1)⟩
theorem r_l_toMsg {Te:TE}:C_l_toMsg (RF Te x_l_toMsg):=by
 intro x
 refine run0 ?_
 simp -implicitDefEqProofs (maxSteps:=1000000) only [x_l_toMsg,go_sem]
 simp -implicitDefEqProofs (maxSteps:=1000000) only [x_l_toMsg_1,go_sem]
 simp -implicitDefEqProofs (maxSteps:=1000000) only [x_l_toMsg_2,go_sem]
 simp -implicitDefEqProofs (maxSteps:=1000000) only [x_l_toMsg_3,go_sem]
 simp -implicitDefEqProofs (maxSteps:=1000000) only [x_l_toMsg_4,go_sem]
 simp -implicitDefEqProofs (maxSteps:=1000000) only [x_l_toMsg_5,go_sem]
def x_l_eqMsg:FnX:=⟨45,[.tmp 4],
  .q [.v 2 0,.v 3 1,.F 4]
 (.seq (.q [.f 5 2 0,.l 6 5,.f 7 3 0,.l 8 7,.b 9 .neq 6 8]
 (.c 9 (.q [.F 4]
 .ret)))
 (.seq (.q [.f 10 2 1,.l 11 10,.f 12 3 1,.l 13 12,.b 14 .neq 11 13]
 (.c 14 (.q [.F 4]
 .ret)))
 (.seq (.q [.f 15 2 2,.l 16 15,.f 17 3 2,.l 18 17,.b 19 .neq 16 18]
 (.c 19 (.q [.F 4]
 .ret)))
 (.seq (.q [.f 20 2 3,.l 21 20,.f 22 3 3,.l 23 22,.b 24 .neq 21 23]
 (.c 24 (.q [.F 4]
 .ret)))
 (.seq (.q [.f 25 2 4,.l 26 25,.f 27 3 4,.l 28 27,.b 29 .neq 26 28]
 (.c 29 (.q [.F 4]
 .ret)))
 (.seq (.q [.f 30 2 5,.l 31 30,.f 32 3 5,.l 33 32,.b 34 .neq 31 33]
 (.c 34 (.q [.F 4]
 .ret)))
 (.seq (.q [.f 35 2 6,.l 36 35,.f 37 3 6,.l 38 37,.b 39 .neq 36 38]
 (.c 39 (.q [.F 4]
 .ret)))
 (.seq (.q [.f 40 2 7,.l 41 40,.f 42 3 7,.l 43 42,.b 44 .neq 41 43]
 (.c 44 (.q [.F 4]
 .ret)))
 (.q [.T 4]
 .ret)))))))))⟩
theorem r_l_eqMsg {Te:TE}:C_l_eqMsg (RF Te x_l_eqMsg):=by
 intro x y
 refine run0 ?_
 have key:(x=y)↔x.Kind=y.Kind∧x.From=y.From∧x.To=y.To∧x.Seq=y.Seq∧x.Key=y.Key∧x.Text=y.Text∧x.N=y.N∧x.Code=y.Code:=by cases x; cases y; simp
 simp only [key]
 clear key
 simp -implicitDefEqProofs (maxSteps:=1000000) only [x_l_eqMsg,go_sem]
 refine ⟨fun q=>?_,fun q=>?_⟩
 ·have n0:¬ (x.Kind=y.Kind):=by simpa using q
  simp only [n0,false_and,and_false,true_and,decide_false]
 have e0:x.Kind=y.Kind:=by simpa using q
 clear q
 refine ⟨fun q=>?_,fun q=>?_⟩
 ·have n1:¬ (x.From=y.From):=by simpa using q
  simp only [e0,n1,false_and,and_false,true_and,decide_false]
 have e1:x.From=y.From:=by simpa using q
 clear q
 refine ⟨fun q=>?_,fun q=>?_⟩
 ·have n2:¬ (x.To=y.To):=by simpa using q
  simp only [e0,e1,n2,false_and,and_false,true_and,decide_false]
 have e2:x.To=y.To:=by simpa using q
 clear q
 refine ⟨fun q=>?_,fun q=>?_⟩
 ·have n3:¬ (x.Seq=y.Seq):=by simpa using q
  simp only [e0,e1,e2,n3,false_and,and_false,true_and,decide_false]
 have e3:x.Seq=y.Seq:=by simpa using q
 clear q
 refine ⟨fun q=>?_,fun q=>?_⟩
 ·have n4:¬ (x.Key=y.Key):=by simpa using q
  simp only [e0,e1,e2,e3,n4,false_and,and_false,true_and,decide_false]
 have e4:x.Key=y.Key:=by simpa using q
 clear q
 refine ⟨fun q=>?_,fun q=>?_⟩
 ·have n5:¬ (x.Text=y.Text):=by simpa using q
  simp only [e0,e1,e2,e3,e4,n5,false_and,and_false,true_and,decide_false]
 have e5:x.Text=y.Text:=by simpa using q
 clear q
 refine ⟨fun q=>?_,fun q=>?_⟩
 ·have n6:¬ (x.N=y.N):=by simpa using q
  simp only [e0,e1,e2,e3,e4,e5,n6,false_and,and_false,true_and,decide_false]
 have e6:x.N=y.N:=by simpa using q
 clear q
 refine ⟨fun q=>?_,fun q=>?_⟩
 ·have n7:¬ (x.Code=y.Code):=by simpa using q
  simp only [e0,e1,e2,e3,e4,e5,e6,n7,false_and,and_false,true_and,decide_false]
 have e7:x.Code=y.Code:=by simpa using q
 clear q
 simp only [e0,e1,e2,e3,e4,e5,e6,e7,true_and,and_true,decide_true]
def x_l_eqMsgS:FnX:=⟨27,[.tmp 4],
  .q [.F 4]
 (.seq (.q [.m 6 0,.n 7 6,.m 8 1,.n 9 8,.b 10 .neq 7 9]
 (.c 10 (.q [.F 4]
 .ret)))
 (.seq (.q [.i 5 0]
 (.block 0 (.loop [0,1,5] (.seq (.q [.m 11 5,.m 12 0,.n 13 12,.b 14 .lss 11 13]
 (.cond 14 .skip (.exit 0)))
 (.seq (.block 1 (.seq (.draw [.m 17 0,.m 18 5,.x 19 8 17 18,.L 20 8 19,.m 21 1,.m 22 5,.x 23 8 21 22,.L 24 8 23,.c 25 35 [20,24],.N 26 25] [[],[],[0,1],[2],[],[],[4,5],[6],[3,7],[8]])
 (.c 26 (.q [.F 4]
 .ret))))
 (.reg [.m 15 5,.B 16 .add 15 1,.m 5 16]))))))
 (.norm [] (.q [.T 4]
 .ret))))⟩
theorem r_l_eqMsgS {Te:TE} (c_l_eqMsg:C_l_eqMsg Te):C_l_eqMsgS (RF Te x_l_eqMsgS):=by
 intro l m hl
 refine run0 ?_
 simp -implicitDefEqProofs (maxSteps:=1000000) (disch:=omega) only [x_l_eqMsgS,go_sem,IntWalk.i64_in]
 refine ⟨fun h=>?_,fun h=>?_⟩
 ·have:l≠m:=fun e=>by simp [e] at h
  simp [this]
 ·have hlen:l.length=m.length:=by simp at h; omega
  refine loop_of (σ:=Nat) (fun i=>⟨[(0,.one (.ro 8 (l.map Msg.row))),(1,.one (.ro 8 (m.map Msg.row))),(5,.one (.pv (.int .i64 i)))],[],[(0,[slT false 8 Msg.row l]),(1,[slT false 8 Msg.row m])]⟩) (fun i=>i≤l.length∧l.take i=m.take i) (fun i=>l.length - i) 0 ?_ ⟨Nat.zero_le _,by simp⟩ ?_
  ·simp -implicitDefEqProofs (maxSteps:=1000000) only [go_sem]; rfl
  ·intro i ⟨hi,hs⟩
   simp -implicitDefEqProofs (maxSteps:=1000000) only [go_sem]
   refine ⟨fun h=>?_,fun h=>?_⟩
   ·have hi':i < l.length:=by simp only [decide_eq_true_eq] at h; omega
    have hj':i < m.length:=by omega
    simp -implicitDefEqProofs (maxSteps:=1000000) only [go_sem,List.getElem?_eq_getElem hi',List.getElem?_eq_getElem hj']
    refine .of (c_l_eqMsg _ _) ?_
    simp -implicitDefEqProofs (maxSteps:=1000000) only [go_sem]
    refine ⟨by decide,fun h2=>?_,fun h2=>?_⟩
    ·have:l≠m:=fun e=>by subst e; simp at h2
     simp [this]
    ·refine ⟨i + 1,by rw [IntWalk.i64_in _ (by omega)]; rfl,⟨hi',same_step hi' hj' hs ?_⟩,by omega⟩
     simpa using h2
   ·have hle:l.length≤i:=by simp only [decide_eq_false_iff_not] at h; omega
    have:l=m:=same_end hle (by omega) hs
    simp [this]
def x_l_toMarkS:FnX:=⟨23,[.tmp 2],
  .q [.op 2 (.mv (.k (.one (.nils 3))))]
 (.q [.m 5 0,.n 6 5,.op 7 (.mks 3 24 [.pv (.int .i64 0),.pv (.int .i64 0),.pv (.int .i64 0)] (.t 6)),.m 3 7]
 (.seq (.q [.i 4 0]
 (.block 0 (.loop [0,3,4] (.seq (.q [.m 8 4,.m 9 0,.n 10 9,.b 11 .lss 8 10]
 (.cond 11 .skip (.exit 0)))
 (.seq (.block 1 (.reg [.m 14 3,.m 15 4,.m 16 0,.m 17 4,.x 18 3 16 17,.L 19 3 18,.c 20 151 [19],.x 21 3 14 15,.s 100001 3 21 20]))
 (.reg [.m 12 4,.B 13 .add 12 1,.m 4 13]))))))
 (.norm [3] (.q [.m 22 3,.m 2 22]
 .ret))))⟩
theorem r_l_toMarkS {Te:TE} (c_l_toMark:C_l_toMark Te):C_l_toMarkS (RF Te x_l_toMarkS):=by
 intro l hl
 refine run0 ?_
 simp -implicitDefEqProofs (maxSteps:=1000000) (disch:=omega) only [x_l_toMarkS,go_sem,IntWalk.i64_in]
 refine ⟨⟨by simp only [decide_eq_true_eq]; omega,by simp only [decide_eq_true_eq]; omega⟩,?_⟩
 refine loop_of (σ:=Nat) (fun i=>⟨[(0,.one (.ro 3 (l.map MarkV.row))),(3,.one (.rf 24 0 [] 3 0 l.length)),(4,.one (.pv (.int .i64 i)))],[],
  [(0,[slT false 3 MarkV.row l]),(24,[.sl true 3 () ((l.take i).map MarkV.row++List.replicate (l.length - i) [.pv (.int .i64 0),.pv (.int .i64 0),.pv (.int .i64 0)])])]⟩) (fun i=>i≤l.length) (fun i=>l.length - i) 0 ?_ (Nat.zero_le _) ?_
 ·simp -implicitDefEqProofs (maxSteps:=1000000) only [go_sem]; rfl
 ·intro i hi
  simp -implicitDefEqProofs (maxSteps:=1000000) only [go_sem]
  refine ⟨fun h=>?_,fun h=>?_⟩
  ·have hi':i < l.length:=by simp only [decide_eq_true_eq] at h; omega
   simp -implicitDefEqProofs (maxSteps:=1000000) only [go_sem,List.getElem?_eq_getElem hi',fill_len MarkV.row l [.pv (.int .i64 0),.pv (.int .i64 0),.pv (.int .i64 0)] hi,storeAp,setCells,List.getD_eq_getElem?_getD,fill_get MarkV.row l [.pv (.int .i64 0),.pv (.int .i64 0),.pv (.int .i64 0)] hi']
   refine .of (c_l_toMark _) ?_
   simp -implicitDefEqProofs (maxSteps:=1000000) only [go_sem,fill_len MarkV.row l [.pv (.int .i64 0),.pv (.int .i64 0),.pv (.int .i64 0)] hi,storeAp,setCells,List.getD_eq_getElem?_getD,fill_get MarkV.row l [.pv (.int .i64 0),.pv (.int .i64 0),.pv (.int .i64 0)] hi']
   repeat (first | refine ⟨by decide,?_⟩ | refine ⟨by simpa using hi',?_⟩)
   refine ⟨i + 1,?_,hi',by omega⟩
   rw [← fill_set MarkV.row l [.pv (.int .i64 0),.pv (.int .i64 0),.pv (.int .i64 0)] hi',IntWalk.i64_in _ (by omega)]
   rfl
  ·have:i=l.length:=by simp only [decide_eq_false_iff_not] at h; omega
   subst this
   simp -implicitDefEqProofs (maxSteps:=1000000) only [go_sem,fill_len MarkV.row l [.pv (.int .i64 0),.pv (.int .i64 0),.pv (.int .i64 0)] hi,fill_end]
   refine ⟨by simp,?_⟩
   simp [take_map]
def x_l_eqMarkS:FnX:=⟨27,[.tmp 4],
  .q [.F 4]
 (.seq (.q [.m 6 0,.n 7 6,.m 8 1,.n 9 8,.b 10 .neq 7 9]
 (.c 10 (.q [.F 4]
 .ret)))
 (.seq (.q [.i 5 0]
 (.block 0 (.loop [0,1,5] (.seq (.q [.m 11 5,.m 12 0,.n 13 12,.b 14 .lss 11 13]
 (.cond 14 .skip (.exit 0)))
 (.seq (.block 1 (.seq (.draw [.m 17 0,.m 18 5,.x 19 3 17 18,.L 20 3 19,.m 21 1,.m 22 5,.x 23 3 21 22,.L 24 3 23,.c 25 170 [20,24],.N 26 25] [[],[],[0,1],[2],[],[],[4,5],[6],[3,7],[8]])
 (.c 26 (.q [.F 4]
 .ret))))
 (.reg [.m 15 5,.B 16 .add 15 1,.m 5 16]))))))
 (.norm [] (.q [.T 4]
 .ret))))⟩
theorem r_l_eqMarkS {Te:TE} (c_l_eqMark:C_l_eqMark Te):C_l_eqMarkS (RF Te x_l_eqMarkS):=by
 intro l m hl
 refine run0 ?_
 simp -implicitDefEqProofs (maxSteps:=1000000) (disch:=omega) only [x_l_eqMarkS,go_sem,IntWalk.i64_in]
 refine ⟨fun h=>?_,fun h=>?_⟩
 ·have:l≠m:=fun e=>by simp [e] at h
  simp [this]
 ·have hlen:l.length=m.length:=by simp at h; omega
  refine loop_of (σ:=Nat) (fun i=>⟨[(0,.one (.ro 3 (l.map MarkV.row))),(1,.one (.ro 3 (m.map MarkV.row))),(5,.one (.pv (.int .i64 i)))],[],[(0,[slT false 3 MarkV.row l]),(1,[slT false 3 MarkV.row m])]⟩) (fun i=>i≤l.length∧l.take i=m.take i) (fun i=>l.length - i) 0 ?_ ⟨Nat.zero_le _,by simp⟩ ?_
  ·simp -implicitDefEqProofs (maxSteps:=1000000) only [go_sem]; rfl
  ·intro i ⟨hi,hs⟩
   simp -implicitDefEqProofs (maxSteps:=1000000) only [go_sem]
   refine ⟨fun h=>?_,fun h=>?_⟩
   ·have hi':i < l.length:=by simp only [decide_eq_true_eq] at h; omega
    have hj':i < m.length:=by omega
    simp -implicitDefEqProofs (maxSteps:=1000000) only [go_sem,List.getElem?_eq_getElem hi',List.getElem?_eq_getElem hj']
    refine .of (c_l_eqMark _ _) ?_
    simp -implicitDefEqProofs (maxSteps:=1000000) only [go_sem]
    refine ⟨by decide,fun h2=>?_,fun h2=>?_⟩
    ·have:l≠m:=fun e=>by subst e; simp at h2
     simp [this]
    ·refine ⟨i + 1,by rw [IntWalk.i64_in _ (by omega)]; rfl,⟨hi',same_step hi' hj' hs ?_⟩,by omega⟩
     simpa using h2
   ·have hle:l.length≤i:=by simp only [decide_eq_false_iff_not] at h; omega
    have:l=m:=same_end hle (by omega) hs
    simp [this]
def x_l_markMarkS_2:XCode:=.q [.m 26 0,.m 27 5,.m 28 1,.x 29 3 26 27,.f 30 29 2,.s 100003 1 30 28]
 (.reg [.m 31 1,.B 32 .add 31 1,.m 1 32])
def x_l_markMarkS_1:XCode:=.q [.m 19 0,.m 20 5,.m 21 1,.x 22 3 19 20,.f 23 22 1,.s 100002 1 23 21]
 (.q [.m 24 1,.B 25 .add 24 1,.m 1 25]
 x_l_markMarkS_2)
def x_l_markMarkS:FnX:=⟨34,[.tmp 4],
  .q [.i 4 0]
 (.seq (.q [.i 5 0]
 (.block 0 (.loop [0,1,5] (.seq (.q [.m 6 5,.m 7 0,.n 8 7,.b 9 .lss 6 8]
 (.cond 9 .skip (.exit 0)))
 (.seq (.block 1 (.q [.m 12 0,.m 13 5,.m 14 1,.x 15 3 12 13,.f 16 15 0,.s 100001 1 16 14]
 (.q [.m 17 1,.B 18 .add 17 1,.m 1 18]
 x_l_markMarkS_1)))
 (.reg [.m 10 5,.B 11 .add 10 1,.m 5 11]))))))
 (.norm [1] (.q [.m 33 1,.m 4 33]
 .ret)))⟩
theorem r_l_markMarkS {Te:TE}:C_l_markMarkS (RF Te x_l_markMarkS):=by
 intro l k hl hk
 refine run0 ?_
 simp -implicitDefEqProofs (maxSteps:=1000000) (disch:=omega) only [x_l_markMarkS,go_sem,IntWalk.i64_in]
 refine loop_of (σ:=Nat) (fun i=>⟨[(0,.one (.rf 0 0 [] 3 0 l.length)),(1,.one (.pv (.int .i64 (k + (3 * i:Nat))))),(5,.one (.pv (.int .i64 i)))],[],[(0,[.sl true 3 () ((marks 3 mkMark i k).map MarkV.row++(l.drop i).map MarkV.row)]),(1,[iT k])]⟩) (fun i=>i≤l.length) (fun i=>l.length - i) 0 ?_ (Nat.zero_le _) ?_
 ·simp -implicitDefEqProofs (maxSteps:=1000000) only [go_sem]; simp [marks]
 ·intro i hi
  simp -implicitDefEqProofs (maxSteps:=1000000) only [go_sem]
  refine ⟨fun h=>?_,fun h=>?_⟩
  ·have hi':i < l.length:=by simp only [decide_eq_true_eq] at h; omega
   try simp -implicitDefEqProofs (maxSteps:=1000000) (disch:=omega) only [go_sem,storeAp,setCells,List.length_set,List.set_set,mark_len MarkV.row 3 mkMark l k hi,List.getD_eq_getElem?_getD,mark_get MarkV.row 3 mkMark l k hi',mark_reget MarkV.row 3 mkMark l k hi',Option.getD_some,IntWalk.i64_in]
   repeat (first | refine ⟨by decide,?_⟩ | refine ⟨decide_eq_true hi',?_⟩)
   simp -implicitDefEqProofs (maxSteps:=1000000) (disch:=omega) only [x_l_markMarkS_1,go_sem,storeAp,setCells,List.length_set,List.set_set,mark_len MarkV.row 3 mkMark l k hi,List.getD_eq_getElem?_getD,mark_get MarkV.row 3 mkMark l k hi',mark_reget MarkV.row 3 mkMark l k hi',Option.getD_some,IntWalk.i64_in]
   repeat (first | refine ⟨by decide,?_⟩ | refine ⟨decide_eq_true hi',?_⟩)
   simp -implicitDefEqProofs (maxSteps:=1000000) (disch:=omega) only [x_l_markMarkS_2,go_sem,storeAp,setCells,List.length_set,List.set_set,mark_len MarkV.row 3 mkMark l k hi,List.getD_eq_getElem?_getD,mark_get MarkV.row 3 mkMark l k hi',mark_reget MarkV.row 3 mkMark l k hi',Option.getD_some,IntWalk.i64_in]
   repeat (first | refine ⟨by decide,?_⟩ | refine ⟨decide_eq_true hi',?_⟩)
   refine ⟨i + 1,?_,hi',by omega⟩
   rw [← mark_set MarkV.row 3 mkMark l k hi',show k + ((3 * (i + 1):Nat):Int)=k + (3 * i:Nat) + 1 + 1 + 1 by omega]
   rfl
  ·have:i=l.length:=by simp only [decide_eq_false_iff_not] at h; omega
   subst this
   simp -implicitDefEqProofs (maxSteps:=1000000) only [go_sem,mark_end]
def x_i_RecsOf:FnX:=⟨45,[.tmp 2],
  .q [.v 1 0,.op 2 (.mv (.k (.one (.nils 13))))]
 (.q [.f 8 1 1,.l 9 8,.op 10 (.build [.i 0,.e,.i 0,.nils 1,.i 0,.nils 1,.i 0,.F,.e,.i 0,.i 0,.i 0,.i 0] [(0,1,(.i 3)),(9,1,(.t 9))]),.op 11 (.bslice 13 [(.t 10)]),.m 3 11]
 (.seq (.q [.f 12 1 0,.l 13 12,.n 14 13,.i 15 0]
 (.block 0 (.loop [1,3,13,14,15] (.q [.b 16 .lss 15 14]
 (.seq (.cond 16 .skip (.exit 0))
 (.seq (.block 1 (.q [.x 17 7 13 15,.L 18 7 17,.op 5 (.alloc [.e,.i 0,.nils 1,.i 0,.nils 1,.i 0,.F]),.s 100001 7 5 18]
 (.reg [.m 19 3,.L 20 7 5,.c 21 153 [20],.op 22 (.build [.i 0,.e,.i 0,.nils 1,.i 0,.nils 1,.i 0,.F,.e,.i 0,.i 0,.i 0,.i 0] [(0,1,(.i 1)),(1,7,(.t 21))]),.op 23 (.bslice 13 [(.t 22)]),.op 24 (.app 13 152 (.t 19) (.t 23)),.m 3 24])))
 (.reg [.B 25 .add 15 1,.m 15 25])))))))
 (.norm [1,3] (.seq (.q [.f 26 1 2,.l 27 26,.n 28 27,.i 29 0]
 (.block 2 (.loop [3,27,28,29] (.q [.b 30 .lss 29 28]
 (.seq (.cond 30 .skip (.exit 2))
 (.seq (.block 3 (.q [.x 31 3 27 29,.L 32 3 31,.op 7 (.alloc [.i 0,.i 0,.i 0]),.s 100002 3 7 32]
 (.reg [.m 33 3,.f 34 7 0,.l 35 34,.f 36 7 1,.l 37 36,.f 38 7 2,.l 39 38,.op 40 (.build [.i 0,.e,.i 0,.nils 1,.i 0,.nils 1,.i 0,.F,.e,.i 0,.i 0,.i 0,.i 0] [(0,1,(.i 4)),(10,1,(.t 35)),(11,1,(.t 37)),(12,1,(.t 39))]),.op 41 (.bslice 13 [(.t 40)]),.op 42 (.app 13 152 (.t 33) (.t 41)),.m 3 42])))
 (.reg [.B 43 .add 29 1,.m 29 43])))))))
 (.norm [3] (.q [.m 44 3,.m 2 44]
 .ret))))))⟩
theorem r_i_RecsOf {Te:TE} (c_i_copyRow:C_i_copyRow Te):C_i_RecsOf (RF Te x_i_RecsOf):=by
 intro t h
 obtain ⟨⟨hR,hRl⟩,hM⟩:=h
 refine X0 x_i_RecsOf.eq_1 ?_
 refine loop_of (σ:=Nat×List RecV) (fun x=>⟨[(1,.bp 1 0),(3,.one (.rf 46 0 [] 13 0 x.2.length)),(13,.one (.ro 7 (t.Rows.map (RowV.enc false)))),(14,.one (.pv (.int .i64 t.Rows.length))),(15,.one (.pv (.int .i64 x.1)))],[(1,[.ro 7 (t.Rows.map (RowV.enc false)),.pv (.int .i64 t.Phase),.ro 3 (t.Marks.map MarkV.row)])],[(0,t.enc false),(46,[slT true 13 (RecV.enc true) x.2])]⟩) (fun x=>x.1≤t.Rows.length∧x.2.length=x.1 + 1∧x.2=recPhase t.Phase::(t.Rows.take x.1).map recRow) (fun x=>t.Rows.length - x.1) (0,[recPhase t.Phase]) ?_ ⟨Nat.zero_le _,rfl,rfl⟩ ?_
 ·simp -implicitDefEqProofs (maxSteps:=1000000) only [go_sem]
  try rfl
 ·rintro ⟨i,a⟩ ⟨hi,hl,he⟩
  simp only at hi hl he
  cases q:decide ((i:Int) < (t.Rows.length:Int))
  ·have k0:i=t.Rows.length:=by simp only [decide_eq_false_iff_not] at q; omega
   rw [k0,List.take_length] at he
   refine G1 q ?_
   refine loop_of (σ:=Nat×List RecV) (fun x=>⟨[(3,.one (.rf 46 0 [] 13 0 x.2.length)),(27,.one (.ro 3 (t.Marks.map MarkV.row))),(28,.one (.pv (.int .i64 t.Marks.length))),(29,.one (.pv (.int .i64 x.1)))],[],[(0,t.enc false),(46,[slT true 13 (RecV.enc true) x.2])]⟩) (fun x=>x.1≤t.Marks.length∧x.2.length=t.Rows.length + x.1 + 1∧x.2=recPhase t.Phase::(t.Rows.map recRow++(t.Marks.take x.1).map recMark)) (fun x=>t.Marks.length - x.1) (0,a) ?_ ⟨Nat.zero_le _,by simp only; omega,by simp only [List.take_zero,List.map_nil,List.append_nil]; exact he⟩ ?_
   ·simp -implicitDefEqProofs (maxSteps:=1000000) only [go_sem]
    try rfl
   ·rintro ⟨j,b⟩ ⟨hj,hbl,hbe⟩
    simp only at hj hbl hbe
    cases q2:decide ((j:Int) < (t.Marks.length:Int))
    ·have k2:j=t.Marks.length:=by simp only [decide_eq_false_iff_not] at q2; omega
     rw [k2,List.take_length] at hbe
     have e9:recsOf t=b:=hbe.symm
     have e8:List.take b.length (List.map (RecV.enc true) b)=List.map (RecV.enc true) b:=List.take_of_length_le (by simp)
     exact F3 q2 e9 e8
    ·have k2:j < t.Marks.length:=by simp only [decide_eq_true_eq] at q2; omega
     have ea:List.map (RecV.enc true) b++[[iT 4,sT ⟨#[]⟩,iT 0,Tr.sl true 1 () [],iT 0,Tr.sl true 1 () [],iT 0,bT false,sT ⟨#[]⟩,iT 0,iT t.Marks[j].Who,iT t.Marks[j].Seq,iT t.Marks[j].Code]]=List.map (RecV.enc true) (b++[recMark t.Marks[j]]):=by rw [List.map_append]; rfl
     have et:List.take b.length (List.map (RecV.enc true) b)=List.map (RecV.enc true) b:=List.take_of_length_le (by simp)
     refine G4 q2 (List.getElem?_eq_getElem k2) et ea ?_
     refine ⟨(j + 1,b++[recMark t.Marks[j]]),?_,⟨k2,?_,?_⟩,?_⟩
     ·rw [IntWalk.i64_in _ (by omega)]
      simp only [List.length_append]
      rfl
     ·simp only [List.length_append,List.length_cons,List.length_nil]; omega
     ·rw [hbe,recs_marks k2]
     ·simp only; omega
  ·have k1:i < t.Rows.length:=by simp only [decide_eq_true_eq] at q; omega
   have ea:List.map (RecV.enc true) a++[[iT 1,sT t.Rows[i].Key,iT t.Rows[i].Old.Tag,slT true 1 uR t.Rows[i].Old.B,iT t.Rows[i].New.Tag,slT true 1 uR t.Rows[i].New.B,iT t.Rows[i].Has,bT t.Rows[i].Aside,sT ⟨#[]⟩,iT 0,iT 0,iT 0,iT 0]]=List.map (RecV.enc true) (a++[recRow t.Rows[i]]):=by rw [List.map_append]; rfl
   have et:List.take a.length (List.map (RecV.enc true) a)=List.map (RecV.enc true) a:=List.take_of_length_le (by simp)
   refine G2 q (List.getElem?_eq_getElem k1) ?_
   refine C2 (c_i_copyRow t.Rows[i] (hRl _ (List.getElem_mem k1))) et ea ?_
   refine ⟨(i + 1,a++[recRow t.Rows[i]]),?_,⟨k1,?_,?_⟩,?_⟩
   ·rw [IntWalk.i64_in _ (by omega)]
    simp only [List.length_append]
    rfl
   ·simp only [List.length_append,List.length_cons,List.length_nil]; omega
   ·rw [he,recs_rows k1]
   ·simp only; omega
def x_l_szCell:FnX:=⟨12,[.tmp 4],
  .q [.v 2 0,.i 4 0]
 (.q [.f 5 2 1,.l 6 5,.m 7 1,.c 8 126 [6,7],.m 1 8]
 (.seq (.q [.m 9 1,.B 10 .lss 9 0]
 (.c 10 (.q [.i 4 (-1)]
 .ret)))
 (.q [.m 11 1,.m 4 11]
 .ret)))⟩
theorem r_l_szCell {Te:TE} (c_l_szByteS:C_l_szByteS Te):C_l_szCell (RF Te x_l_szCell):=by
 intro x k hx hk
 refine run0 ?_
 have h0:=hx
 simp -implicitDefEqProofs (maxSteps:=1000000) (disch:=omega) only [x_l_szCell,go_sem,IntWalk.i64_in]
 refine .of (c_l_szByteS _ _ h0 hk) ?_
 simp -implicitDefEqProofs (maxSteps:=1000000) (disch:=omega) only [go_sem,IntWalk.i64_in]
 refine ⟨fun q0=>?_,fun q0=>?_⟩
 ·simp only [decide_eq_true_eq] at q0
  simp only [szCell,szAll,if_pos q0]
 ·simp only [decide_eq_false_iff_not] at q0
  have k1:0≤(left (k - (x.B.length:Nat)))∧(left (k - (x.B.length:Nat)))≤2 ^ 48:=⟨by omega,Int.le_trans (Sane.left _ _ hk.1) hk.2⟩
  simp only [szCell,szAll,if_neg q0]
def x_l_toCell:FnX:=⟨12,[.cell 2 (some 2)],
  .q [.v 1 0,.op 2 (.alloc [.i 0,.nils 1])]
 (.q [.op 3 (.alloc [.i 0,.nils 1])]
 (.q [.f 4 1 0,.l 5 4,.f 6 3 0,.s 100001 1 6 5]
 (.q [.f 7 1 1,.l 8 7,.c 9 148 [8],.f 10 3 1,.s 100002 1 10 9]
 (.q [.L 11 2 3,.s 100003 2 2 11]
 .ret))))⟩
theorem r_l_toCell {Te:TE} (c_l_toByteS:C_l_toByteS Te):C_l_toCell (RF Te x_l_toCell):=by
 intro x hx
 refine run0 ?_
 have h0:x.B.length≤2 ^ 21:=hx
 simp -implicitDefEqProofs (maxSteps:=1000000) only [x_l_toCell,go_sem]
 exact D0 (c_l_toByteS _ (Nat.le_trans h0 (by decide)))
def x_l_eqCell:FnX:=⟨16,[.tmp 4],
  .q [.v 2 0,.v 3 1,.F 4]
 (.seq (.q [.f 5 2 0,.l 6 5,.f 7 3 0,.l 8 7,.b 9 .neq 6 8]
 (.c 9 (.q [.F 4]
 .ret)))
 (.seq (.q [.f 10 2 1,.l 11 10,.f 12 3 1,.l 13 12,.c 14 167 [11,13],.N 15 14]
 (.c 15 (.q [.F 4]
 .ret)))
 (.q [.T 4]
 .ret)))⟩
theorem r_l_eqCell {Te:TE} (c_l_eqByteS:C_l_eqByteS Te):C_l_eqCell (RF Te x_l_eqCell):=by
 intro x y hx
 refine run0 ?_
 have h0:x.B.length≤2 ^ 21:=hx
 have key:(x=y)↔x.Tag=y.Tag∧x.B=y.B:=by cases x; cases y; simp
 simp only [key]
 clear key
 simp -implicitDefEqProofs (maxSteps:=1000000) only [x_l_eqCell,go_sem]
 refine ⟨fun q=>?_,fun q=>?_⟩
 ·have n0:¬ (x.Tag=y.Tag):=by simpa using q
  simp only [n0,false_and,and_false,true_and,decide_false]
 have e0:x.Tag=y.Tag:=by simpa using q
 clear q
 refine .of (c_l_eqByteS _ _ (Nat.le_trans h0 (by decide))) ?_
 simp -implicitDefEqProofs (maxSteps:=1000000) only [go_sem]
 refine ⟨fun q=>?_,fun q=>?_⟩
 ·have n1:¬ (x.B=y.B):=by simpa using q
  simp only [e0,n1,false_and,and_false,true_and,decide_false]
 have e1:x.B=y.B:=by simpa using q
 clear q
 simp only [e0,e1,true_and,and_true,decide_true]
def x_l_szRow:FnX:=⟨25,[.tmp 4],
  .q [.v 2 0,.i 4 0]
 (.q [.m 5 1,.f 6 2 0,.l 7 6,.op 8 (.slen (.t 7)),.b 9 .sub 5 8,.m 1 9]
 (.seq (.q [.m 10 1,.B 11 .lss 10 0]
 (.c 11 (.q [.i 4 (-1)]
 .ret)))
 (.q [.f 12 2 1,.L 13 2 12,.m 14 1,.c 15 173 [13,14],.m 1 15]
 (.seq (.q [.m 16 1,.B 17 .lss 16 0]
 (.c 17 (.q [.i 4 (-1)]
 .ret)))
 (.q [.f 18 2 3,.L 19 2 18,.m 20 1,.c 21 173 [19,20],.m 1 21]
 (.seq (.q [.m 22 1,.B 23 .lss 22 0]
 (.c 23 (.q [.i 4 (-1)]
 .ret)))
 (.q [.m 24 1,.m 4 24]
 .ret)))))))⟩
theorem r_l_szRow {Te:TE} (c_l_szCell:C_l_szCell Te):C_l_szRow (RF Te x_l_szRow):=by
 intro x k hx hk
 refine run0 ?_
 obtain ⟨h0,h1,h2⟩:=hx
 simp -implicitDefEqProofs (maxSteps:=1000000) (disch:=omega) only [x_l_szRow,go_sem,IntWalk.i64_in]
 refine ⟨fun q0=>?_,fun q0=>?_⟩
 ·simp only [decide_eq_true_eq] at q0
  simp only [szRow,szAll,if_pos q0]
 ·simp only [decide_eq_false_iff_not] at q0
  have k1:0≤(k - (x.Key.size:Nat))∧(k - (x.Key.size:Nat))≤2 ^ 48:=⟨by omega,Int.le_trans (Sane.sub _ _ hk.1) hk.2⟩
  try simp -implicitDefEqProofs (maxSteps:=1000000) (disch:=omega) only [go_sem,IntWalk.i64_in]
  refine .of (c_l_szCell _ _ h1 k1) ?_
  simp -implicitDefEqProofs (maxSteps:=1000000) (disch:=omega) only [go_sem,IntWalk.i64_in]
  refine ⟨fun q1=>?_,fun q1=>?_⟩
  ·simp only [decide_eq_true_eq] at q1
   simp only [szRow,szAll,if_neg q0,if_pos q1]
  ·simp only [decide_eq_false_iff_not] at q1
   have k2:0≤(szCell x.Old (k - (x.Key.size:Nat)))∧(szCell x.Old (k - (x.Key.size:Nat)))≤2 ^ 48:=⟨by omega,Int.le_trans ((szCell_sane _) _ k1.1) k1.2⟩
   refine .of (c_l_szCell _ _ h2 k2) ?_
   simp -implicitDefEqProofs (maxSteps:=1000000) (disch:=omega) only [go_sem,IntWalk.i64_in]
   refine ⟨fun q2=>?_,fun q2=>?_⟩
   ·simp only [decide_eq_true_eq] at q2
    simp only [szRow,szAll,if_neg q0,if_neg q1,if_pos q2]
   ·simp only [decide_eq_false_iff_not] at q2
    have k3:0≤(szCell x.New (szCell x.Old (k - (x.Key.size:Nat))))∧(szCell x.New (szCell x.Old (k - (x.Key.size:Nat))))≤2 ^ 48:=⟨by omega,Int.le_trans ((szCell_sane _) _ k2.1) k2.2⟩
    simp only [szRow,szAll,if_neg q0,if_neg q1,if_neg q2]
def x_l_toRow:FnX:=⟨22,[.cell 2 (some 7)],
  .q [.v 1 0,.op 2 (.alloc [.e,.i 0,.nils 1,.i 0,.nils 1,.i 0,.F])]
 (.q [.op 3 (.alloc [.e,.i 0,.nils 1,.i 0,.nils 1,.i 0,.F])]
 (.q [.f 4 1 0,.l 5 4,.f 6 3 0,.s 100001 1 6 5]
 (.q [.f 7 1 1,.L 8 2 7,.c 9 192 [8],.f 10 3 1,.s 100002 2 10 9]
 (.q [.f 11 1 3,.L 12 2 11,.c 13 192 [12],.f 14 3 3,.s 100003 2 14 13]
 (.q [.f 15 1 5,.l 16 15,.f 17 3 5,.s 100004 1 17 16]
 (.q [.f 18 1 6,.l 19 18,.f 20 3 6,.s 100005 1 20 19]
 (.q [.L 21 7 3,.s 100006 7 2 21]
 .ret)))))))⟩
theorem r_l_toRow {Te:TE} (c_l_toCell:C_l_toCell Te):C_l_toRow (RF Te x_l_toRow):=by
 intro x hx
 refine run0 ?_
 obtain ⟨h0,h1⟩:=hx
 simp -implicitDefEqProofs (maxSteps:=1000000) only [x_l_toRow,go_sem]
 refine C0 (c_l_toCell _ h0) ?_
 exact D0 (c_l_toCell _ h1)
def x_l_eqRow:FnX:=⟨32,[.tmp 4],
  .q [.v 2 0,.v 3 1,.F 4]
 (.seq (.q [.f 5 2 0,.l 6 5,.f 7 3 0,.l 8 7,.b 9 .neq 6 8]
 (.c 9 (.q [.F 4]
 .ret)))
 (.seq (.q [.f 10 2 1,.L 11 2 10,.f 12 3 1,.L 13 2 12,.c 14 213 [11,13],.N 15 14]
 (.c 15 (.q [.F 4]
 .ret)))
 (.seq (.q [.f 16 2 3,.L 17 2 16,.f 18 3 3,.L 19 2 18,.c 20 213 [17,19],.N 21 20]
 (.c 21 (.q [.F 4]
 .ret)))
 (.seq (.q [.f 22 2 5,.l 23 22,.f 24 3 5,.l 25 24,.b 26 .neq 23 25]
 (.c 26 (.q [.F 4]
 .ret)))
 (.seq (.q [.f 27 2 6,.l 28 27,.f 29 3 6,.l 30 29,.op 31 (.beq true (.t 28) (.t 30))]
 (.c 31 (.q [.F 4]
 .ret)))
 (.q [.T 4]
 .ret))))))⟩
theorem r_l_eqRow {Te:TE} (c_l_eqCell:C_l_eqCell Te):C_l_eqRow (RF Te x_l_eqRow):=by
 intro x y hx
 refine run0 ?_
 obtain ⟨h0,h1⟩:=hx
 have key:(x=y)↔x.Key=y.Key∧x.Old=y.Old∧x.New=y.New∧x.Has=y.Has∧x.Aside=y.Aside:=by cases x; cases y; simp
 simp only [key]
 clear key
 simp -implicitDefEqProofs (maxSteps:=1000000) only [x_l_eqRow,go_sem]
 refine ⟨fun q=>?_,fun q=>?_⟩
 ·have n0:¬ (x.Key=y.Key):=by simpa using q
  simp only [n0,false_and,and_false,true_and,decide_false]
 have e0:x.Key=y.Key:=by simpa using q
 clear q
 refine .of (c_l_eqCell _ _ h0) ?_
 simp -implicitDefEqProofs (maxSteps:=1000000) only [go_sem]
 refine ⟨fun q=>?_,fun q=>?_⟩
 ·have n1:¬ (x.Old=y.Old):=by simpa using q
  simp only [e0,n1,false_and,and_false,true_and,decide_false]
 have e1:x.Old=y.Old:=by simpa using q
 clear q
 refine .of (c_l_eqCell _ _ h1) ?_
 simp -implicitDefEqProofs (maxSteps:=1000000) only [go_sem]
 refine ⟨fun q=>?_,fun q=>?_⟩
 ·have n2:¬ (x.New=y.New):=by simpa using q
  simp only [e0,e1,n2,false_and,and_false,true_and,decide_false]
 have e2:x.New=y.New:=by simpa using q
 clear q
 refine ⟨fun q=>?_,fun q=>?_⟩
 ·have n3:¬ (x.Has=y.Has):=by simpa using q
  simp only [e0,e1,e2,n3,false_and,and_false,true_and,decide_false]
 have e3:x.Has=y.Has:=by simpa using q
 clear q
 refine ⟨fun q=>?_,fun q=>?_⟩
 ·have n4:¬ (x.Aside=y.Aside):=by simpa using q
  simp only [e0,e1,e2,e3,n4,false_and,and_false,true_and,decide_false]
 have e4:x.Aside=y.Aside:=by simpa using q
 clear q
 simp only [e0,e1,e2,e3,e4,true_and,and_true,decide_true]
def x_s_NodePhase:FnX:=⟨30,[.cell 4 (some 10),.tmp 5],
  .q [.v 2 0,.op 4 (.alloc [.nils 1,.nils 2,.i 0,.F,.nils 7,.i 0,.nils 3,.i 0,.i 0,.i 0]),.F 5]
 (.q [.L 7 10 2,.c 8 22 [7],.op 6 (.alloc [.nils 1,.nils 2,.i 0,.F,.nils 7,.i 0,.nils 3,.i 0,.i 0,.i 0]),.s 100001 10 6 8]
 (.seq (.q [.L 9 10 2,.c 10 21 [9],.N 11 10]
 (.c 11 (.q [.L 12 10 6,.s 100002 10 4 12,.F 5]
 .ret)))
 (.seq (.q [.f 13 2 0,.f 14 13 4,.f 15 14 1,.l 16 15,.m 17 1,.c 18 89 [16,17]]
 (.c 18 (.reg [.f 19 6 0,.m 20 1,.op 21 (.build [.i 0,.e,.i 0,.nils 1,.i 0,.nils 1,.i 0,.F,.e,.i 0,.i 0,.i 0,.i 0] [(0,1,(.i 3)),(9,1,(.t 20))]),.op 22 (.call 90 [11,0] [(.t 19),(.t 21)])])))
 (.seq (.draw [.L 23 10 6,.f 24 6 0,.f 25 24 4,.f 26 25 1,.l 27 26,.m 28 1,.b 29 .eql 27 28,.s 100003 10 4 23,.m 5 29] [[],[],[1],[2],[3],[],[4,5],[0,0],[6,7,0,1,2,3,4,5,6,7]])
 .ret))))⟩
theorem r_s_NodePhase {Te:TE} (c_s_l15Copy:C_s_l15Copy Te) (c_s_l15Up:C_s_l15Up Te) (c_s_NextOk:C_s_NextOk Te) (c_s_l13Add:C_s_l13Add Te):C_s_NodePhase (RF Te x_s_NodePhase):=by
 intro n p hn
 have hL:=hn.len (by decide)
 refine X0 x_s_NodePhase.eq_1 ?_
 refine C0 (c_s_l15Copy n hL) ?_
 refine C0 (c_s_l15Up n (hn.mono (by decide))) ?_
 cases g1:n.up
 ·have e:n.phase p=(n,false):=by rw [NodeV.phase,g1]; rfl
  exact F1 e
 obtain ⟨k1,k2,_⟩:=up_ok g1
 have e:n.phase p=(n.phase1 p,(n.phase1 p).S.T.Phase==p):=by rw [NodeV.phase,g1]; rfl
 refine G0 ?_
 refine C0 (c_s_NextOk _ _) ?_
 cases g2:nextOk n.S.T.Phase p
 ·have e1:n.phase1 p=n:=by rw [NodeV.phase1,g2]; rfl
  exact F2 e e1
 ·have e1:n.phase1 p=n.added (recPh p):=by rw [NodeV.phase1,g2]; rfl
  refine G0 ?_
  refine .of (c_s_l13Add n.S (recPh p) k1 k2 hn.2 (recPh_in p _)) ?_
  try simp -implicitDefEqProofs (maxSteps:=1000000) only [go_sem,e,e1,NodeV.added,NodeV.enc,take_all,take_marks]
  repeat refine ⟨sc,?_⟩
  try exact sf
  try rfl
def x_s_l2Len:FnX:=⟨18,[.tmp 2],
  .q [.i 2 0]
 (.seq (.block 0 (.q [.m 4 0,.op 5 (.bin .lss (.t 4) (.k (.one (.pv (.int .u8 128))))),.m 3 5]
 (.cond 3 (.q [.i 2 1]
 .ret) (.q [.m 7 0,.op 8 (.conv (.int .i64) (.t 7)),.op 9 (.call 42 [0,0,0] [(.t 8),(.i 194),(.i 223)]),.m 6 9]
 (.cond 6 (.q [.i 2 2]
 .ret) (.q [.m 11 0,.op 12 (.conv (.int .i64) (.t 11)),.op 13 (.call 42 [0,0,0] [(.t 12),(.i 224),(.i 239)]),.m 10 13]
 (.cond 10 (.q [.i 2 3]
 .ret) (.q [.m 15 0,.op 16 (.conv (.int .i64) (.t 15)),.op 17 (.call 42 [0,0,0] [(.t 16),(.i 240),(.i 244)]),.m 14 17]
 (.c 14 (.q [.i 2 4]
 .ret))))))))))
 (.q [.i 2 0]
 .ret))⟩
theorem r_s_l2Len {Te:TE} (c_s_l1In:C_s_l1In Te):C_s_l2Len (RF Te x_s_l2Len):=by
 intro b
 have hb:=b.toNat_lt
 have w:IntKind.i64.wrap (b.toNat:Int)=(b.toNat:Int):=IntWalk.i64_in _ (by omega)
 cases q1:decide ((b.toNat:Int) < 128)
 ·simp only [decide_eq_false_iff_not] at q1
  have q1':=decide_eq_false q1
  refine X2 x_s_l2Len.eq_1 q1' w ?_
  refine C0 (c_s_l1In _ _ _) ?_
  cases q2:win (b.toNat:Int) 194 223
  ·refine G1 w ?_
   refine C0 (c_s_l1In _ _ _) ?_
   cases q3:win (b.toNat:Int) 224 239
   ·refine G1 w ?_
    refine C0 (c_s_l1In _ _ _) ?_
    cases q4:win (b.toNat:Int) 240 244
    ·have e:l2len b.toNat=0:=by
      simp only [win,Bool.and_eq_false_imp,decide_eq_true_eq,decide_eq_false_iff_not] at q2 q3 q4
      unfold l2len
      rw [if_neg (by omega),if_neg (by omega),if_neg (by omega),if_neg (by omega)]
     exact F1 e
    ·have e:l2len b.toNat=4:=by
      simp only [win,Bool.and_eq_true,decide_eq_true_eq] at q4
      unfold l2len
      rw [if_neg (by omega),if_neg (by omega),if_neg (by omega),if_pos (by omega)]
     exact F1 e
   ·have e:l2len b.toNat=3:=by
     simp only [win,Bool.and_eq_true,decide_eq_true_eq] at q3
     unfold l2len
     rw [if_neg (by omega),if_neg (by omega),if_pos (by omega)]
    exact F1 e
  ·have e:l2len b.toNat=2:=by
    simp only [win,Bool.and_eq_true,decide_eq_true_eq] at q2
    unfold l2len
    rw [if_neg (by omega),if_pos (by omega)]
   exact F1 e
 ·simp only [decide_eq_true_eq] at q1
  have q1':=decide_eq_true q1
  have e:l2len b.toNat=1:=if_pos (by omega)
  refine X2 x_s_l2Len.eq_1 q1' e ?_
  try rfl
def x_s_NodeOk:FnX:=⟨11,[.tmp 2],
  .q [.v 1 0,.F 2]
 (.q [.f 3 1 0,.L 4 9 3,.c 5 82 [4],.m 6 5,.y 6 (.f 7 1 9),.y 6 (.l 8 7),.y 6 (.op 9 (.call 42 [0,0,0] [(.t 8),(.i 1),(.i 5)])),.a 10 6 9,.m 2 10]
 .ret)⟩
theorem r_s_NodeOk {Te:TE} (c_s_StoreOk:C_s_StoreOk Te) (c_s_l1In:C_s_l1In Te):C_s_NodeOk (RF Te x_s_NodeOk):=by
 intro n h
 refine run0 ?_
 simp -implicitDefEqProofs (maxSteps:=1000000) only [x_s_NodeOk,go_sem,NodeV.ok]
 repeat refine ⟨sc,?_⟩
 try exact sf
 refine C0 (c_s_StoreOk n.S h) ?_
 cases g1:n.S.ok
 ·exact F0
 ·refine G0 ?_
  exact D0 (c_s_l1In _ _ _)
end Go.X

