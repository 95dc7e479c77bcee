/- Texts: CVi_3 CF CVj_3 CVa CVi_2 CVzg CEb_4 CEa_5 CVb CEb_9 CV CVg_4. -/
import Derived.Test.YtmmjaijeeeilcaaGreatDoorW04
set_option linter.unusedVariables false
set_option linter.unusedSimpArgs false
namespace Go.X
set_option maxRecDepth 100000
set_option maxHeartbeats 8000000
def x_i_RecOk:FnX:=⟨98,[.tmp 2],
  .q [.v 1 0,.F 2]
 (.seq (.draw [.f 6 1 1,.L 7 7 6,.op 8 (.build [.e,.i 0,.nils 1,.i 0,.nils 1,.i 0,.F] []),.c 9 85 [7,8],.f 10 1 8,.l 11 10,.op 12 (.bin .eql (.t 11) (.k (.one (.pv (.string ⟨#[]⟩))))),.m 3 9,.m 4 12] [[],[0],[],[1,2],[],[4],[5],[3,3,0,1,2,3],[6,7,0,1,2,3,4,5,6,7]])
 (.q [.F 5]
 (.seq (.q [.f 13 1 0,.l 14 13]
 (.block 0 (.q [.B 16 .eql 14 1,.m 15 16]
 (.cond 15 (.reg [.f 17 1 1,.L 18 7 17,.c 19 253 [18],.m 20 19,.y 20 (.m 21 4),.a 22 20 21,.m 23 22,.y 23 (.f 24 1 9),.y 23 (.l 25 24),.y 23 (.B 26 .eql 25 0),.a 27 23 26,.m 5 27]) (.q [.B 29 .eql 14 2,.m 28 29]
 (.cond 28 (.reg [.m 30 3,.m 31 30,.y 31 (.f 32 1 8),.y 31 (.l 33 32),.y 31 (.c 34 98 [33]),.a 35 31 34,.m 36 35,.y 36 (.f 37 1 9),.y 36 (.l 38 37),.y 36 (.B 39 .eql 38 0),.a 40 36 39,.m 5 40]) (.q [.B 42 .eql 14 3,.m 41 42]
 (.cond 41 (.reg [.m 43 3,.m 44 43,.y 44 (.m 45 4),.a 46 44 45,.m 47 46,.y 47 (.f 48 1 9),.y 47 (.l 49 48),.y 47 (.op 50 (.call 90 [0,0,0] [(.t 49),(.i 0),(.i 7)])),.a 51 47 50,.m 5 51]) (.q [.B 53 .eql 14 4,.m 52 53]
 (.c 52 (.reg [.m 54 3,.m 55 54,.y 55 (.m 56 4),.a 57 55 56,.m 58 57,.y 58 (.f 59 1 9),.y 58 (.l 60 59),.y 58 (.B 61 .eql 60 0),.a 62 58 61,.m 63 62,.y 63 (.f 64 1 10),.y 63 (.l 65 64),.y 63 (.B 66 .neq 65 0),.a 67 63 66,.m 5 67])))))))))))
 (.seq (.q [.f 68 1 10,.l 69 68,.B 70 .eql 69 0]
 (.c 70 (.q [.m 71 5,.m 72 71,.y 72 (.f 73 1 11),.y 72 (.l 74 73),.y 72 (.B 75 .eql 74 0),.a 76 72 75,.m 77 76,.y 77 (.f 78 1 12),.y 77 (.l 79 78),.y 77 (.B 80 .eql 79 0),.a 81 77 80,.m 2 81]
 .ret)))
 (.q [.m 82 5,.m 83 82,.y 83 (.f 84 1 10),.y 83 (.l 85 84),.y 83 (.op 86 (.call 90 [0,0,0] [(.t 85),(.i 1),(.i 9)])),.a 87 83 86,.m 88 87,.y 88 (.f 89 1 11),.y 88 (.l 90 89),.y 88 (.c 91 247 [90]),.a 92 88 91,.m 93 92,.y 93 (.f 94 1 12),.y 93 (.l 95 94),.y 93 (.op 96 (.call 90 [0,0,0] [(.t 95),(.i 0),(.i 6)])),.a 97 93 96,.m 2 97]
 .ret)))))⟩
theorem r_i_RecOk {Te:TE} (c_i_sameRow:C_i_sameRow Te) (c_i_RowOk:C_i_RowOk Te) (c_i_NameOk:C_i_NameOk Te) (c_i_within:C_i_within Te) (c_i_isWord:C_i_isWord Te):C_i_RecOk (RF Te x_i_RecOk):=by
 intro r h
 refine run0 ?_
 have hR:=h.1
 have hK:=h.2
 obtain ⟨kind,R,key,n,who,seq,code⟩:=r
 simp only at hR hK
 have ts:=c_i_sameRow R RowV.zero
 rw [rowSame_zero] at ts
 simp -implicitDefEqProofs (maxSteps:=1000000) only [x_i_RecOk,go_sem,bytes_beq]
 repeat refine ⟨sc,?_⟩
 try exact sf
 refine .of (ts) ?_
 try simp -implicitDefEqProofs (maxSteps:=1000000) only [go_sem,bytes_beq]
 repeat refine ⟨sc,?_⟩
 try exact sf
 by_cases q1:kind=1
 ·subst q1
  refine G0 ?_
  refine C0 (c_i_RowOk R hR) ?_
  cases g1:R.ok
  ·refine G1 g1 ?_
   cases g0:(who==0)
   ·try simp -implicitDefEqProofs (maxSteps:=1000000) only [go_sem,g0,RecV.ok,RecV.body,RecV.who,g1]
    repeat refine ⟨sc,?_⟩
    try exact sf
   ·try simp -implicitDefEqProofs (maxSteps:=1000000) only [go_sem,g0,RecV.ok,RecV.body,RecV.who,g1]
    repeat refine ⟨sc,?_⟩
    try exact sf
  refine G1 g1 ?_
  cases g2:decide (key=⟨#[]⟩)
  ·refine G2 g1 g2 ?_
   cases g0:(who==0)
   ·try simp -implicitDefEqProofs (maxSteps:=1000000) only [go_sem,g0,RecV.ok,RecV.body,RecV.who,g1,g2]
    repeat refine ⟨sc,?_⟩
    try exact sf
   ·try simp -implicitDefEqProofs (maxSteps:=1000000) only [go_sem,g0,RecV.ok,RecV.body,RecV.who,g1,g2]
    repeat refine ⟨sc,?_⟩
    try exact sf
  refine G1 g2 ?_
  cases g3:(n==0)
  ·refine G3 g1 g2 g3 ?_
   cases g0:(who==0)
   ·try simp -implicitDefEqProofs (maxSteps:=1000000) only [go_sem,g0,RecV.ok,RecV.body,RecV.who,g1,g2,g3]
    repeat refine ⟨sc,?_⟩
    try exact sf
   ·try simp -implicitDefEqProofs (maxSteps:=1000000) only [go_sem,g0,RecV.ok,RecV.body,RecV.who,g1,g2,g3]
    repeat refine ⟨sc,?_⟩
    try exact sf
  refine G1 g3 ?_
  cases g0:(who==0)
  ·refine G1 g0 ?_
   refine C0 (c_i_within _ _ _) ?_
   cases h1:win who 1 9
   ·try simp -implicitDefEqProofs (maxSteps:=1000000) only [go_sem,g0,h1,RecV.ok,RecV.body,RecV.who,g1,g2,g3]
    repeat refine ⟨sc,?_⟩
    try exact sf
   refine G0 ?_
   refine C0 (c_i_isWord _) ?_
   cases h2:win seq 0 65535
   ·try simp -implicitDefEqProofs (maxSteps:=1000000) only [go_sem,g0,h1,h2,RecV.ok,RecV.body,RecV.who,g1,g2,g3]
    repeat refine ⟨sc,?_⟩
    try exact sf
    try rfl
   refine G0 ?_
   refine .of (c_i_within _ _ _) ?_
   try simp -implicitDefEqProofs (maxSteps:=1000000) only [go_sem,g0,h1,h2,RecV.ok,RecV.body,RecV.who,g1,g2,g3]
   repeat refine ⟨sc,?_⟩
   try exact sf
  ·refine G1 g0 ?_
   cases h1:(seq==0)
   ·try simp -implicitDefEqProofs (maxSteps:=1000000) only [go_sem,g0,h1,RecV.ok,RecV.body,RecV.who,g1,g2,g3]
    repeat refine ⟨sc,?_⟩
    try exact sf
   refine G1 h1 ?_
   cases h2:(code==0)
   ·try simp -implicitDefEqProofs (maxSteps:=1000000) only [go_sem,g0,h1,h2,RecV.ok,RecV.body,RecV.who,g1,g2,g3]
    repeat refine ⟨sc,?_⟩
    try exact sf
    try rfl
   try simp -implicitDefEqProofs (maxSteps:=1000000) only [go_sem,g0,h1,h2,RecV.ok,RecV.body,RecV.who,g1,g2,g3]
   repeat refine ⟨sc,?_⟩
   try exact sf
   try rfl
 by_cases q2:kind=2
 ·subst q2
  refine G0 ?_
  cases g1:R.no
  ·refine G1 g1 ?_
   cases g0:(who==0)
   ·try simp -implicitDefEqProofs (maxSteps:=1000000) only [go_sem,g0,RecV.ok,RecV.body,RecV.who,g1]
    repeat refine ⟨sc,?_⟩
    try exact sf
   ·try simp -implicitDefEqProofs (maxSteps:=1000000) only [go_sem,g0,RecV.ok,RecV.body,RecV.who,g1]
    repeat refine ⟨sc,?_⟩
    try exact sf
  refine G1 g1 ?_
  refine C0 (c_i_NameOk key hK) ?_
  cases g2:nameOk key
  ·refine G2 g1 g2 ?_
   cases g0:(who==0)
   ·try simp -implicitDefEqProofs (maxSteps:=1000000) only [go_sem,g0,RecV.ok,RecV.body,RecV.who,g1,g2]
    repeat refine ⟨sc,?_⟩
    try exact sf
   ·try simp -implicitDefEqProofs (maxSteps:=1000000) only [go_sem,g0,RecV.ok,RecV.body,RecV.who,g1,g2]
    repeat refine ⟨sc,?_⟩
    try exact sf
  refine G1 g2 ?_
  cases g3:(n==0)
  ·refine G3 g1 g2 g3 ?_
   cases g0:(who==0)
   ·try simp -implicitDefEqProofs (maxSteps:=1000000) only [go_sem,g0,RecV.ok,RecV.body,RecV.who,g1,g2,g3]
    repeat refine ⟨sc,?_⟩
    try exact sf
   ·try simp -implicitDefEqProofs (maxSteps:=1000000) only [go_sem,g0,RecV.ok,RecV.body,RecV.who,g1,g2,g3]
    repeat refine ⟨sc,?_⟩
    try exact sf
  refine G1 g3 ?_
  cases g0:(who==0)
  ·refine G1 g0 ?_
   refine C0 (c_i_within _ _ _) ?_
   cases h1:win who 1 9
   ·try simp -implicitDefEqProofs (maxSteps:=1000000) only [go_sem,g0,h1,RecV.ok,RecV.body,RecV.who,g1,g2,g3]
    repeat refine ⟨sc,?_⟩
    try exact sf
   refine G0 ?_
   refine C0 (c_i_isWord _) ?_
   cases h2:win seq 0 65535
   ·try simp -implicitDefEqProofs (maxSteps:=1000000) only [go_sem,g0,h1,h2,RecV.ok,RecV.body,RecV.who,g1,g2,g3]
    repeat refine ⟨sc,?_⟩
    try exact sf
    try rfl
   refine G0 ?_
   refine .of (c_i_within _ _ _) ?_
   try simp -implicitDefEqProofs (maxSteps:=1000000) only [go_sem,g0,h1,h2,RecV.ok,RecV.body,RecV.who,g1,g2,g3]
   repeat refine ⟨sc,?_⟩
   try exact sf
  ·refine G1 g0 ?_
   cases h1:(seq==0)
   ·try simp -implicitDefEqProofs (maxSteps:=1000000) only [go_sem,g0,h1,RecV.ok,RecV.body,RecV.who,g1,g2,g3]
    repeat refine ⟨sc,?_⟩
    try exact sf
   refine G1 h1 ?_
   cases h2:(code==0)
   ·try simp -implicitDefEqProofs (maxSteps:=1000000) only [go_sem,g0,h1,h2,RecV.ok,RecV.body,RecV.who,g1,g2,g3]
    repeat refine ⟨sc,?_⟩
    try exact sf
    try rfl
   try simp -implicitDefEqProofs (maxSteps:=1000000) only [go_sem,g0,h1,h2,RecV.ok,RecV.body,RecV.who,g1,g2,g3]
   repeat refine ⟨sc,?_⟩
   try exact sf
   try rfl
 by_cases q3:kind=3
 ·subst q3
  refine G0 ?_
  cases g1:R.no
  ·refine G1 g1 ?_
   cases g0:(who==0)
   ·try simp -implicitDefEqProofs (maxSteps:=1000000) only [go_sem,g0,RecV.ok,RecV.body,RecV.who,g1]
    repeat refine ⟨sc,?_⟩
    try exact sf
   ·try simp -implicitDefEqProofs (maxSteps:=1000000) only [go_sem,g0,RecV.ok,RecV.body,RecV.who,g1]
    repeat refine ⟨sc,?_⟩
    try exact sf
  refine G1 g1 ?_
  cases g2:decide (key=⟨#[]⟩)
  ·refine G2 g1 g2 ?_
   cases g0:(who==0)
   ·try simp -implicitDefEqProofs (maxSteps:=1000000) only [go_sem,g0,RecV.ok,RecV.body,RecV.who,g1,g2]
    repeat refine ⟨sc,?_⟩
    try exact sf
   ·try simp -implicitDefEqProofs (maxSteps:=1000000) only [go_sem,g0,RecV.ok,RecV.body,RecV.who,g1,g2]
    repeat refine ⟨sc,?_⟩
    try exact sf
  refine G1 g2 ?_
  refine C0 (c_i_within _ _ _) ?_
  cases g3:win n 0 7
  ·refine G3 g1 g2 g3 ?_
   cases g0:(who==0)
   ·try simp -implicitDefEqProofs (maxSteps:=1000000) only [go_sem,g0,RecV.ok,RecV.body,RecV.who,g1,g2,g3]
    repeat refine ⟨sc,?_⟩
    try exact sf
   ·try simp -implicitDefEqProofs (maxSteps:=1000000) only [go_sem,g0,RecV.ok,RecV.body,RecV.who,g1,g2,g3]
    repeat refine ⟨sc,?_⟩
    try exact sf
  refine G1 g3 ?_
  cases g0:(who==0)
  ·refine G1 g0 ?_
   refine C0 (c_i_within _ _ _) ?_
   cases h1:win who 1 9
   ·try simp -implicitDefEqProofs (maxSteps:=1000000) only [go_sem,g0,h1,RecV.ok,RecV.body,RecV.who,g1,g2,g3]
    repeat refine ⟨sc,?_⟩
    try exact sf
   refine G0 ?_
   refine C0 (c_i_isWord _) ?_
   cases h2:win seq 0 65535
   ·try simp -implicitDefEqProofs (maxSteps:=1000000) only [go_sem,g0,h1,h2,RecV.ok,RecV.body,RecV.who,g1,g2,g3]
    repeat refine ⟨sc,?_⟩
    try exact sf
    try rfl
   refine G0 ?_
   refine .of (c_i_within _ _ _) ?_
   try simp -implicitDefEqProofs (maxSteps:=1000000) only [go_sem,g0,h1,h2,RecV.ok,RecV.body,RecV.who,g1,g2,g3]
   repeat refine ⟨sc,?_⟩
   try exact sf
  ·refine G1 g0 ?_
   cases h1:(seq==0)
   ·try simp -implicitDefEqProofs (maxSteps:=1000000) only [go_sem,g0,h1,RecV.ok,RecV.body,RecV.who,g1,g2,g3]
    repeat refine ⟨sc,?_⟩
    try exact sf
   refine G1 h1 ?_
   cases h2:(code==0)
   ·try simp -implicitDefEqProofs (maxSteps:=1000000) only [go_sem,g0,h1,h2,RecV.ok,RecV.body,RecV.who,g1,g2,g3]
    repeat refine ⟨sc,?_⟩
    try exact sf
    try rfl
   try simp -implicitDefEqProofs (maxSteps:=1000000) only [go_sem,g0,h1,h2,RecV.ok,RecV.body,RecV.who,g1,g2,g3]
   repeat refine ⟨sc,?_⟩
   try exact sf
   try rfl
 by_cases q4:kind=4
 ·subst q4
  refine G0 ?_
  cases g1:R.no
  ·refine G1 g1 ?_
   cases g0:(who==0)
   ·try simp -implicitDefEqProofs (maxSteps:=1000000) only [go_sem,g0,RecV.ok,RecV.body,RecV.who,g1]
    repeat refine ⟨sc,?_⟩
    try exact sf
   ·try simp -implicitDefEqProofs (maxSteps:=1000000) only [go_sem,g0,RecV.ok,RecV.body,RecV.who,g1]
    repeat refine ⟨sc,?_⟩
    try exact sf
  refine G1 g1 ?_
  cases g2:decide (key=⟨#[]⟩)
  ·refine G2 g1 g2 ?_
   cases g0:(who==0)
   ·try simp -implicitDefEqProofs (maxSteps:=1000000) only [go_sem,g0,RecV.ok,RecV.body,RecV.who,g1,g2]
    repeat refine ⟨sc,?_⟩
    try exact sf
   ·try simp -implicitDefEqProofs (maxSteps:=1000000) only [go_sem,g0,RecV.ok,RecV.body,RecV.who,g1,g2]
    repeat refine ⟨sc,?_⟩
    try exact sf
  refine G1 g2 ?_
  cases g3:(n==0)
  ·refine G3 g1 g2 g3 ?_
   cases g0:(who==0)
   ·try simp -implicitDefEqProofs (maxSteps:=1000000) only [go_sem,g0,RecV.ok,RecV.body,RecV.who,g1,g2,g3]
    repeat refine ⟨sc,?_⟩
    try exact sf
   ·try simp -implicitDefEqProofs (maxSteps:=1000000) only [go_sem,g0,RecV.ok,RecV.body,RecV.who,g1,g2,g3]
    repeat refine ⟨sc,?_⟩
    try exact sf
  refine G1 g3 ?_
  cases g0:(who==0)
  ·have g9:(who != 0)=true:=by rw [bne,g0]; rfl
   refine G2 g0 g9 ?_
   refine C0 (c_i_within _ _ _) ?_
   cases h1:win who 1 9
   ·try simp -implicitDefEqProofs (maxSteps:=1000000) only [go_sem,g0,h1,RecV.ok,RecV.body,RecV.who,g1,g2,g3]
    repeat refine ⟨sc,?_⟩
    try exact sf
   refine G0 ?_
   refine C0 (c_i_isWord _) ?_
   cases h2:win seq 0 65535
   ·try simp -implicitDefEqProofs (maxSteps:=1000000) only [go_sem,g0,h1,h2,RecV.ok,RecV.body,RecV.who,g1,g2,g3]
    repeat refine ⟨sc,?_⟩
    try exact sf
    try rfl
   refine G0 ?_
   refine .of (c_i_within _ _ _) ?_
   try simp -implicitDefEqProofs (maxSteps:=1000000) only [go_sem,g0,h1,h2,RecV.ok,RecV.body,RecV.who,g1,g2,g3]
   repeat refine ⟨sc,?_⟩
   try exact sf
  ·have g9:(who != 0)=false:=by rw [bne,g0]; rfl
   refine G2 g0 g9 ?_
   cases h1:(seq==0)
   ·try simp -implicitDefEqProofs (maxSteps:=1000000) only [go_sem,g0,h1,RecV.ok,RecV.body,RecV.who,g1,g2,g3]
    repeat refine ⟨sc,?_⟩
    try exact sf
   cases h2:(code==0)
   ·try simp -implicitDefEqProofs (maxSteps:=1000000) only [go_sem,g0,h1,h2,RecV.ok,RecV.body,RecV.who,g1,g2,g3]
    repeat refine ⟨sc,?_⟩
    try exact sf
    try rfl
   try simp -implicitDefEqProofs (maxSteps:=1000000) only [go_sem,g0,h1,h2,RecV.ok,RecV.body,RecV.who,g1,g2,g3]
   repeat refine ⟨sc,?_⟩
   try exact sf
   try rfl
 obtain ⟨k1,k2,k3,k4⟩:=other_kind q1 q2 q3 q4
 refine G4 k1 k2 k3 k4 ?_
 cases g0:(who==0)
 ·try simp -implicitDefEqProofs (maxSteps:=1000000) only [go_sem,g0,RecV.ok,RecV.body,RecV.who,k1,k2,k3,k4]
  repeat refine ⟨sc,?_⟩
  try exact sf
 ·try simp -implicitDefEqProofs (maxSteps:=1000000) only [go_sem,g0,RecV.ok,RecV.body,RecV.who,k1,k2,k3,k4]
  repeat refine ⟨sc,?_⟩
  try exact sf
def x_i_within:FnX:=⟨15,[.tmp 6],
  .q [.F 6]
 (.q [.m 7 0,.m 8 1,.b 9 .geq 7 8,.m 10 9,.y 10 (.m 11 0),.y 10 (.m 12 2),.y 10 (.b 13 .leq 11 12),.a 14 10 13,.m 6 14]
 .ret)⟩
theorem r_i_within {Te:TE}:C_i_within (RF Te x_i_within):=by
 intro n a b
 refine run0 ?_
 simp -implicitDefEqProofs (maxSteps:=1000000) only [x_i_within,go_sem]
 refine bif_cases (fun h=>?_) (fun h=>?_) <;> simp -implicitDefEqProofs (maxSteps:=1000000) only [h,go_sem,win]
def x_s_l1In:FnX:=⟨15,[.tmp 6],
  .q [.F 6]
 (.q [.m 7 0,.m 8 1,.b 9 .geq 7 8,.m 10 9,.y 10 (.m 11 0),.y 10 (.m 12 2),.y 10 (.b 13 .leq 11 12),.a 14 10 13,.m 6 14]
 .ret)⟩
theorem r_s_l1In {Te:TE}:C_s_l1In (RF Te x_s_l1In):=by
 intro n a b
 refine run0 ?_
 simp -implicitDefEqProofs (maxSteps:=1000000) only [x_s_l1In,go_sem]
 refine bif_cases (fun h=>?_) (fun h=>?_) <;> simp -implicitDefEqProofs (maxSteps:=1000000) only [h,go_sem,win]
def x_i_isWord:FnX:=⟨5,[.tmp 2],
  .q [.F 2]
 (.q [.m 3 0,.op 4 (.call 90 [0,0,0] [(.t 3),(.i 0),(.i 65535)]),.m 2 4]
 .ret)⟩
theorem r_i_isWord {Te:TE} (c_i_within:C_i_within Te):C_i_isWord (RF Te x_i_isWord):=by
 intro n
 refine run0 ?_
 simp -implicitDefEqProofs (maxSteps:=1000000) only [x_i_isWord,go_sem]
 exact D0 (c_i_within _ _ _)
def x_s_l1Word:FnX:=⟨5,[.tmp 2],
  .q [.F 2]
 (.q [.m 3 0,.op 4 (.call 120 [0,0,0] [(.t 3),(.i 0),(.i 65535)]),.m 2 4]
 .ret)⟩
theorem r_s_l1Word {Te:TE} (c_s_l1In:C_s_l1In Te):C_s_l1Word (RF Te x_s_l1Word):=by
 intro n
 refine run0 ?_
 simp -implicitDefEqProofs (maxSteps:=1000000) only [x_s_l1Word,go_sem]
 exact D0 (c_s_l1In _ _ _)
def x_i_PutRec:FnX:=⟨68,[.tmp 6],
  .q [.v 5 2,.op 6 (.mv (.k (.one (.nils 1))))]
 (.seq (.q [.L 8 13 5,.c 9 306 [8],.N 10 9,.m 11 10,.z 11 (.m 12 0),.z 11 (.c 13 247 [12]),.z 11 (.N 14 13),.r 15 11 14,.m 16 15,.z 16 (.m 17 1),.z 16 (.c 18 247 [17]),.z 16 (.N 19 18),.r 20 16 19]
 (.c 20 (.q [.op 6 (.mv (.k (.one (.nils 1))))]
 .ret)))
 (.seq (.draw [.m 21 0,.op 22 (.call 312 [0,0] [(.k (.one (.nils 1))),(.t 21)]),.m 23 1,.c 24 312 [22,23],.f 25 5 0,.l 26 25,.op 27 (.conv (.int .u8) (.t 26)),.op 28 (.bslice 1 [(.t 27)]),.op 29 (.app 1 1 (.t 24) (.t 28)),.m 7 29] [[],[0],[],[1,2,1],[],[4],[5],[6],[3,7,3],[8,8,0,1,2,3,4,5,6,7,8]])
 (.seq (.q [.f 30 5 0,.l 31 30]
 (.block 0 (.q [.B 33 .eql 31 1,.m 32 33]
 (.cond 32 (.reg [.m 34 7,.f 35 5 1,.L 36 7 35,.c 37 313 [34,36],.m 7 37]) (.q [.B 39 .eql 31 2,.m 38 39]
 (.cond 38 (.reg [.m 40 7,.f 41 5 8,.l 42 41,.c 43 314 [40,42],.m 7 43]) (.q [.B 45 .eql 31 3,.m 44 45]
 (.c 44 (.reg [.m 46 7,.f 47 5 9,.l 48 47,.op 49 (.conv (.int .u8) (.t 48)),.op 50 (.bslice 1 [(.t 49)]),.op 51 (.app 1 1 (.t 46) (.t 50)),.m 7 51])))))))))
 (.seq (.draw [.m 52 7,.f 53 5 10,.l 54 53,.op 55 (.conv (.int .u8) (.t 54)),.f 56 5 12,.l 57 56,.op 58 (.conv (.int .u8) (.t 57)),.op 59 (.bslice 1 [(.t 55),(.t 58)]),.op 60 (.app 1 1 (.t 52) (.t 59)),.f 61 5 11,.l 62 61,.c 63 312 [60,62],.m 7 63] [[],[],[1],[2],[],[4],[5],[3,6],[0,7],[],[9],[8,10,8],[11,11,0,1,2,3,4,5,6,7,8,9,10,11]])
 (.q [.m 64 7,.m 65 7,.c 66 315 [65],.c 67 312 [64,66],.m 6 67]
 .ret)))))⟩
theorem r_i_PutRec {Te:TE} (c_i_RecOk:C_i_RecOk Te) (c_i_isWord:C_i_isWord Te) (c_i_PutW:C_i_PutW Te) (c_i_PutRow:C_i_PutRow Te) (c_i_PutText:C_i_PutText Te) (c_i_Sum:C_i_Sum Te):C_i_PutRec (RF Te x_i_PutRec):=by
 intro gen place r h
 have h1:=h.1
 have h2:=h.2
 refine X0 x_i_PutRec.eq_1 ?_
 refine C0 (c_i_RecOk r h) ?_
 cases g1:r.ok
 ·have e:=recNo1 (gen:=gen) (place:=place) g1
  exact F1 e
 refine G0 ?_
 refine C0 (c_i_isWord _) ?_
 cases g2:win gen 0 65535
 ·have e:=recNo2 (place:=place) (r:=r) g2
  exact F1 e
 refine G0 ?_
 refine C0 (c_i_isWord _) ?_
 cases g3:win place 0 65535
 ·have e:=recNo3 (gen:=gen) (r:=r) g3
  exact F1 e
 refine G0 ?_
 have ey:=recYes g1 g2 g3
 have lw:(putW (putW [] gen) place).length=4:=by rw [putW_len,putW_len]; rfl
 have t1:=c_i_PutW [] gen (by show 0≤2 ^ 30; decide)
 refine C0 (t1) ?_
 refine .of (c_i_PutW (putW [] gen) place (by rw [putW_len]; show 0 + 2≤2 ^ 30; decide)) ?_
 try simp -implicitDefEqProofs (maxSteps:=1000000) only [go_sem,mkU_wrap,app1B,take1B]
 repeat refine ⟨sc,?_⟩
 try exact sf
 have e1:putW (putW [] gen) place++[mkU r.Kind]=recHead gen place r:=rfl
 have e2:(putW (putW [] gen) place).length + 1=(recHead gen place r).length:=by rw [recHead,List.length_append]; rfl
 simp only [e1,e2]
 have l0:=recHead_len gen place r
 generalize eH:recHead gen place r=H at l0 ⊢
 by_cases q1:r.Kind=1
 ·have k1:(r.Kind==1)=true:=by rw [q1]; rfl
  refine G1 k1 ?_
  refine C0 (c_i_PutRow H r.R (by omega) h1) ?_
  have e3:putRow H r.R=recKind H r:=(if_pos q1).symm
  have l3:=recKind_len H r
  try simp -implicitDefEqProofs (maxSteps:=1000000) only [go_sem,e3,mkU_wrap,app2B,take2B]
  repeat refine ⟨sc,?_⟩
  try exact sf
  have tt:=c_i_PutW (recKind H r++[mkU r.Who,mkU r.Code]) r.Seq (by rw [List.length_append]; simp only [List.length_cons,List.length_nil]; omega)
  have e4:putW (recKind H r++[mkU r.Who,mkU r.Code]) r.Seq=recBody gen place r:=by rw [recBody,eH]
  rw [e4] at tt
  refine C0 (tt) ?_
  have l4:=recBody_len gen place r
  refine C0 (c_i_Sum (recBody gen place r) (by omega)) ?_
  refine .of (c_i_PutW (recBody gen place r) _ (by omega)) ?_
  try simp -implicitDefEqProofs (maxSteps:=1000000) only [go_sem,ey]
  repeat refine ⟨sc,?_⟩
  try exact sf
 by_cases q2:r.Kind=2
 ·have k1:(r.Kind==1)=false:=by rw [q2]; rfl
  have k2:(r.Kind==2)=true:=by rw [q2]; rfl
  refine G2 k1 k2 ?_
  refine C0 (c_i_PutText H r.Key (by omega) h2) ?_
  have e3:putText H r.Key=recKind H r:=by rw [recKind,if_neg q1,if_pos q2]
  have l3:=recKind_len H r
  try simp -implicitDefEqProofs (maxSteps:=1000000) only [go_sem,e3,mkU_wrap,app2B,take2B]
  repeat refine ⟨sc,?_⟩
  try exact sf
  have tt:=c_i_PutW (recKind H r++[mkU r.Who,mkU r.Code]) r.Seq (by rw [List.length_append]; simp only [List.length_cons,List.length_nil]; omega)
  have e4:putW (recKind H r++[mkU r.Who,mkU r.Code]) r.Seq=recBody gen place r:=by rw [recBody,eH]
  rw [e4] at tt
  refine C0 (tt) ?_
  have l4:=recBody_len gen place r
  refine C0 (c_i_Sum (recBody gen place r) (by omega)) ?_
  refine .of (c_i_PutW (recBody gen place r) _ (by omega)) ?_
  try simp -implicitDefEqProofs (maxSteps:=1000000) only [go_sem,ey]
  repeat refine ⟨sc,?_⟩
  try exact sf
 by_cases q3:r.Kind=3
 ·have k1:(r.Kind==1)=false:=by rw [q3]; rfl
  have k2:(r.Kind==2)=false:=by rw [q3]; rfl
  have k3:(r.Kind==3)=true:=by rw [q3]; rfl
  have e3:H++[mkU r.N]=recKind H r:=by rw [recKind,if_neg q1,if_neg q2,if_pos q3]
  have e5:H.length + 1=(recKind H r).length:=by rw [← e3,List.length_append]; rfl
  have l3:=recKind_len H r
  try simp -implicitDefEqProofs (maxSteps:=1000000) only [go_sem,k1,k2,k3,mkU_wrap,app1B,e3,e5,take_rows]
  repeat refine ⟨sc,?_⟩
  try exact sf
  try simp -implicitDefEqProofs (maxSteps:=1000000) only [go_sem,e3,mkU_wrap,app2B,take2B]
  repeat refine ⟨sc,?_⟩
  try exact sf
  have tt:=c_i_PutW (recKind H r++[mkU r.Who,mkU r.Code]) r.Seq (by rw [List.length_append]; simp only [List.length_cons,List.length_nil]; omega)
  have e4:putW (recKind H r++[mkU r.Who,mkU r.Code]) r.Seq=recBody gen place r:=by rw [recBody,eH]
  rw [e4] at tt
  refine C0 (tt) ?_
  have l4:=recBody_len gen place r
  refine C0 (c_i_Sum (recBody gen place r) (by omega)) ?_
  refine .of (c_i_PutW (recBody gen place r) _ (by omega)) ?_
  try simp -implicitDefEqProofs (maxSteps:=1000000) only [go_sem,ey]
  repeat refine ⟨sc,?_⟩
  try exact sf
 obtain ⟨k1,k2,k3⟩:=other3 q1 q2 q3
 refine G3 k1 k2 k3 ?_
 have e3:recKind H r=H:=by rw [recKind,if_neg q1,if_neg q2,if_neg q3]
 try simp -implicitDefEqProofs (maxSteps:=1000000) only [go_sem,mkU_wrap,app2B,take2B]
 repeat refine ⟨sc,?_⟩
 try exact sf
 have tt:=c_i_PutW (H++[mkU r.Who,mkU r.Code]) r.Seq (by rw [List.length_append]; simp only [List.length_cons,List.length_nil]; omega)
 have e4:putW (H++[mkU r.Who,mkU r.Code]) r.Seq=recBody gen place r:=by rw [recBody,eH,e3]
 rw [e4] at tt
 refine C0 (tt) ?_
 have l4:=recBody_len gen place r
 refine C0 (c_i_Sum (recBody gen place r) (by omega)) ?_
 refine .of (c_i_PutW (recBody gen place r) _ (by omega)) ?_
 try simp -implicitDefEqProofs (maxSteps:=1000000) only [go_sem,ey]
 repeat refine ⟨sc,?_⟩
 try exact sf
def x_s_GetSign_1:XCode:=.seq (.q [.i 9 1]
 (.block 0 (.loop [0,1,7,8,9] (.seq (.q [.m 43 9,.m 44 7,.b 45 .lss 43 44]
 (.cond 45 .skip (.exit 0)))
 (.seq (.block 1 (.seq (.q [.m 48 0,.m 49 1,.m 50 9,.b 51 .add 49 50,.x 52 1 48 51,.l 53 52,.op 54 (.bin .and (.t 53) (.k (.one (.pv (.int .u8 192))))),.op 55 (.bin .neq (.t 54) (.k (.one (.pv (.int .u8 128)))))]
 (.c 55 (.q [.i 4 0,.i 5 0,.F 6]
 .ret)))
 (.reg [.m 56 8,.op 57 (.bin .shl (.t 56) (.k (.one (.pv (.int .u64 6))))),.m 58 0,.m 59 1,.m 60 9,.b 61 .add 59 60,.x 62 1 58 61,.l 63 62,.op 64 (.bin .and (.t 63) (.k (.one (.pv (.int .u8 63))))),.op 65 (.conv (.int .i64) (.t 64)),.b 66 .or 57 65,.m 8 66])))
 (.reg [.m 46 9,.B 47 .add 46 1,.m 9 47]))))))
 (.norm [0,1,7,8] (.seq (.seq (.draw [.m 67 8,.c 68 275 [67],.N 69 68,.m 70 69,.z 70 (.op 71 (.bslice 1 [])),.z 70 (.m 72 8),.z 70 (.c 73 189 [71,72]),.z 70 (.op 74 (.conv .b2s (.t 73))),.z 70 (.m 75 0),.z 70 (.m 76 1),.z 70 (.m 77 1),.z 70 (.m 78 7),.z 70 (.b 79 .add 77 78),.z 70 (.op 80 (.slice 1 (.t 75) (some (.t 76)) (some (.t 79)))),.z 70 (.op 81 (.conv .b2s (.t 80))),.z 70 (.b 82 .neq 74 81),.r 83 70 82] [[],[0],[1],[2,1],[3],[3],[4,5,3,3],[6,3],[3],[3],[3],[3],[10,11,3],[8,9,12,3],[13,3],[7,14,3],[3,15]])
 (.c 83 (.q [.i 4 0,.i 5 0,.F 6]
 .ret)))
 (.q [.m 84 8,.m 85 1,.m 86 7,.b 87 .add 85 86,.m 4 84,.m 5 87,.T 6]
 .ret)))
def x_s_GetSign:FnX:=⟨88,[.tmp 4,.tmp 5,.tmp 6],
  .q [.i 4 0,.i 5 0,.F 6]
 (.seq (.q [.m 10 1,.m 11 0,.n 12 11,.B 13 .sub 12 1,.op 14 (.call 120 [0,0,0] [(.t 10),(.i 0),(.t 13)]),.N 15 14]
 (.c 15 (.q [.i 4 0,.i 5 0,.F 6]
 .ret)))
 (.q [.m 16 0,.m 17 1,.x 18 1 16 17,.l 19 18,.c 20 329 [19],.m 7 20]
 (.seq (.q [.m 21 7,.B 22 .eql 21 0,.m 23 22,.z 23 (.m 24 7),.z 23 (.m 25 0),.z 23 (.n 26 25),.z 23 (.m 27 1),.z 23 (.b 28 .sub 26 27),.z 23 (.b 29 .gtr 24 28),.r 30 23 29]
 (.c 30 (.q [.i 4 0,.i 5 0,.F 6]
 .ret)))
 (.q [.m 31 0,.m 32 1,.x 33 1 31 32,.l 34 33,.op 35 (.conv (.int .i64) (.t 34)),.m 8 35]
 (.seq (.q [.m 36 7,.B 37 .gtr 36 1]
 (.c 37 (.reg [.m 38 8,.m 39 7,.op 40 (.conv (.int .u64) (.t 39)),.op 41 (.bin .shr (.i 127) (.t 40)),.b 42 .and 38 41,.m 8 42])))
 (.norm [0,1,7,8] (x_s_GetSign_1)))))))⟩
theorem s_GetSign_tail {Te:Nat→List AV→Res→Prop} (c_S:C_s_SignOk Te) (c_P:C_s_PutSign Te) (b:List UInt8) (k K m:Nat) (hb:b.length≤2 ^ 30) (hK:1≤K∧K≤4∧k + K≤b.length) (hm:m < 256) :
  runC Te 2 90 x_s_GetSign_1 ⟨[(0,.one (.ro 1 (b.map uR))),(1,.one (.pv (.int .i64 (k:Int)))),(7,.one (.pv (.int .i64 (K:Int)))),(8,.one (.pv (.int .i64 (m:Int))))],[],[(0,[slT false 1 uR b]),(1,[iT k])]⟩
   (EndFn Te [.one (slT false 1 uR b),.one (iT k)] [.tmp 4,.tmp 5,.tmp 6] ⟨[.one (iT (signTail (b.drop k) k K m).1),.one (iT (signTail (b.drop k) k K m).2.1),.one (bT (signTail (b.drop k) k K m).2.2)],[[slT false 1 uR b],[iT k]]⟩):=by
 simp -implicitDefEqProofs (maxSteps:=1000000) only [x_s_GetSign_1,go_sem]
 refine loop_of (σ:=Nat) (fun j=>⟨[(0,.one (.ro 1 (b.map uR))),(1,.one (.pv (.int .i64 (k:Int)))),(7,.one (.pv (.int .i64 (K:Int)))),(8,.one (.pv (.int .i64 ((accN (b.drop k) m j:Nat):Int)))),(9,.one (.pv (.int .i64 ((j + 1:Nat):Int))))],[],[(0,[slT false 1 uR b]),(1,[iT k])]⟩) (fun j=>j + 1≤K∧contB (b.drop k) j=true) (fun j=>K - j) 0 ?_ ⟨hK.1,rfl⟩ ?_
 ·simp -implicitDefEqProofs (maxSteps:=1000000) only [go_sem]; rfl
 ·rintro j ⟨hj,hc⟩
  have hacc:=accN_small (b.drop k) hm (show j≤3 by omega)
  cases q:decide (((j + 1:Nat):Int) < (K:Int))
  ·have hjK:j=K - 1:=by simp only [decide_eq_false_iff_not] at q; omega
   subst hjK
   refine G1 q ?_
   refine C0 (c_S _) ?_
   cases h1:signOk ((accN (b.drop k) m (K - 1):Nat):Int)
   ·have e:=tail_no (l:=b.drop k) (i:=k) (K:=K) (m:=m) (by rw [h1,Bool.and_false,Bool.false_and])
    exact F1 e
   ·have e1:IntKind.i64.wrap ((k:Int) + (K:Int))=((k + K:Nat):Int):=by rw [IntWalk.i64_in _ (by omega)]; rfl
    have e2:k≤k + K:=Nat.le_add_right _ _
    have e3:List.take (k + K - k) (List.drop k (b.map uR))=((b.drop k).take K).map uR:=by rw [← List.map_drop,← List.map_take,Nat.add_sub_cancel_left]
    have e4:decide (k + K≤b.length)=true:=decide_eq_true hK.2.2
    refine G0 ?_
    refine .of (c_P [] _ (by decide)) ?_
    try simp -implicitDefEqProofs (maxSteps:=1000000) only [go_sem,e1,e3,take_map,bytesOf_uR,areBytes_uR,wholeLL_map]
    repeat refine ⟨sc,?_⟩
    try exact sf
    have ep:putSign [] ((accN (b.drop k) m (K - 1):Nat):Int)=enc8 (accN (b.drop k) m (K - 1)):=by simp only [putSign,h1,if_true,Int.toNat_natCast,List.nil_append]
    have ed:decide ((⟨(enc8 (accN (b.drop k) m (K - 1))).toArray⟩:ByteArray)=⟨((b.drop k).take K).toArray⟩)=decide (enc8 (accN (b.drop k) m (K - 1))=(b.drop k).take K):=by
     congr 1
     simp
    cases h2:decide (enc8 (accN (b.drop k) m (K - 1))=(b.drop k).take K)
    ·have e:=tail_no (l:=b.drop k) (i:=k) (K:=K) (m:=m) (by rw [h2,Bool.and_false])
     exact F4 ep ed h2 e
    ·have e:signTail (b.drop k) k K m=(((accN (b.drop k) m (K - 1):Nat):Int),(k:Int) + (K:Nat),true):=if_pos (by rw [hc,h1,h2]; rfl)
     exact F4 ep ed h2 e
  ·have hjK:j + 1 < K:=by simp only [decide_eq_true_eq] at q; omega
   have hidx:k + (j + 1) < b.length:=by omega
   have e1:IntKind.i64.wrap ((k:Int) + ((j + 1:Nat):Int))=((k + (j + 1):Nat):Int):=by rw [IntWalk.i64_in _ (by omega)]; rfl
   have eb:b[k + (j + 1)].toNat=byteN (b.drop k) (j + 1):=by
    simp only [byteN,List.getD_eq_getElem?_getD,List.getElem?_drop]
    rw [List.getElem?_eq_getElem hidx]
    rfl
   have hlt:=byteN_lt (b.drop k) (j + 1)
   have e2:=and192 (byteN (b.drop k) (j + 1)) hlt
   try simp -implicitDefEqProofs (maxSteps:=1000000) only [go_sem,q,e1,List.getElem?_eq_getElem hidx,eb,e2]
   repeat refine ⟨sc,?_⟩
   try exact sf
   cases h3:(byteN (b.drop k) (j + 1) / 64==2)
   ·have hno:contB (b.drop k) (K - 1)=false:=contB_down _ (show j + 1≤K - 1 by omega) (by simp only [contB,h3,Bool.and_false])
    have e:=tail_no (l:=b.drop k) (i:=k) (K:=K) (m:=m) (by rw [hno,Bool.false_and,Bool.false_and])
    exact F1 e
   ·have e4:IntKind.i64.wrap (((accN (b.drop k) m j:Nat):Int) * 2 ^ 6)=((accN (b.drop k) m j * 64:Nat):Int):=by rw [IntWalk.i64_in _ (by omega)]; omega
    have e5:=and8 (byteN (b.drop k) (j + 1)) hlt
    have e6:IntKind.i64.wrap ((byteN (b.drop k) (j + 1) % 64:Nat):Int)=((byteN (b.drop k) (j + 1) % 64:Nat):Int):=IntWalk.i64_in _ (by omega)
    have e7:=or_acc (accN (b.drop k) m j) (byteN (b.drop k) (j + 1) % 64) (by omega) (by omega)
    try simp -implicitDefEqProofs (maxSteps:=1000000) only [go_sem,show Nat.min 6 64=6 from rfl,e1,List.getElem?_eq_getElem hidx,eb,e4,e5,e6,e7]
    repeat refine ⟨sc,?_⟩
    try exact sf
    exact ⟨j + 1,by rw [IntWalk.i64_in _ (by omega)]; rfl,⟨hjK,by simp only [contB,hc,h3,Bool.and_true]⟩,by omega⟩
theorem r_s_GetSign {Te:TE} (c_s_l1In:C_s_l1In Te) (c_s_l2Len:C_s_l2Len Te) (c_s_SignOk:C_s_SignOk Te) (c_s_PutSign:C_s_PutSign Te):C_s_GetSign (RF Te x_s_GetSign):=by
 intro b i hb
 by_cases hi:0≤i∧i < b.length
 ·obtain ⟨k,rfl⟩:∃ k:Nat,i=k:=⟨i.toNat,by omega⟩
  have hk:k < b.length:=by omega
  have hk':((k:Int)).toNat < b.length:=by omega
  have hld:(b.drop k).length=b.length - k:=List.length_drop
  have w1:IntKind.i64.wrap ((b.length:Int) - 1)=(b.length:Int) - 1:=IntWalk.i64_in _ (by omega)
  have w2:IntKind.i64.wrap ((b.length:Int) - (k:Int))=(b.length:Int) - (k:Int):=IntWalk.i64_in _ (by omega)
  have g:win (k:Int) 0 ((b.length:Int) - 1)=true:=by simp only [win,Bool.and_eq_true,decide_eq_true_eq]; omega
  have eb:b[k].toNat=byteN (b.drop k) 0:=by
   simp only [byteN,List.getD_eq_getElem?_getD,List.getElem?_drop,Nat.add_zero]
   rw [List.getElem?_eq_getElem hk]
   rfl
  have hlt:=byteN_lt (b.drop k) 0
  have w3:IntKind.i64.wrap ((byteN (b.drop k) 0:Nat):Int)=(byteN (b.drop k) 0:Nat):=IntWalk.i64_in _ (by omega)
  refine X1 x_s_GetSign.eq_1 w1 ?_
  refine C2 (c_s_l1In _ _ _) g (List.getElem?_eq_getElem hk) ?_
  refine C2 (c_s_l2Len _) eb w2 ?_
  have bad:(l2len (byteN (b.drop k) 0)=0∨(b.drop k).length < l2len (byteN (b.drop k) 0))→getSign b k=(0,0,false):=fun h=>getSign_bad hi (by rw [Int.toNat_natCast]; exact sign0 h (by omega))
  cases q0:(((l2len (byteN (b.drop k) 0):Nat):Int)==0)
  ·cases q1:decide (((l2len (byteN (b.drop k) 0):Nat):Int) > (b.length:Int) - (k:Int))
   ·have hK0:l2len (byteN (b.drop k) 0)≠0:=by
     intro e
     rw [e] at q0
     cases q0
    have hKl:l2len (byteN (b.drop k) 0)≤(b.drop k).length:=by simp only [decide_eq_false_iff_not] at q1; omega
    have tail:∀ K m:Nat,1≤K∧K≤4∧k + K≤b.length→m < 256→_:=fun K m h1 h2=>s_GetSign_tail c_s_SignOk c_s_PutSign b k K m hb h1 h2
    have eg:getSign b (k:Int)=getTail (b.drop k) k:=by
     cases hs:signAt (b.drop k) with
     | none=>rw [getTail_none hs,getSign_bad hi (by rw [Int.toNat_natCast]; exact hs)]
     | some d=>rw [getTail_some hs,getSign_good hi (by rw [Int.toNat_natCast]; exact hs)]
    rcases l2len_in _ hK0 with ⟨hK,hv⟩ | ⟨hK,hv⟩ | ⟨hK,hv⟩ | ⟨hK,hv⟩
    ·rw [hK] at hKl q0 q1
     have ek:decide (((1:Nat):Int) > 1)=false:=by decide
     rw [eg,tail1 (l:=b.drop k) (k:Int) (by omega) hv]
     simp -implicitDefEqProofs (maxSteps:=1000000) only [go_sem,hK,q0,q1,w2,w3,List.getElem?_eq_getElem hk,eb,ek]
     exact tail 1 (byteN (b.drop k) 0) (by omega) (by omega)
    ·rw [hK] at hKl q0 q1
     have ek:decide (((2:Nat):Int) > 1)=true:=by decide
     rw [eg,tail2 (l:=b.drop k) (k:Int) (by omega) hv]
     have em:andK .i64 ((byteN (b.drop k) 0:Nat):Int) ((31:Nat):Int)=((byteN (b.drop k) 0 % 32:Nat):Int):=and_mask _ 5 hlt (by decide)
     have ew:IntKind.u64.wrap ((2:Nat):Int)=((2:Nat):Int):=by decide
     have ef:Int.fdiv 127 (2 ^ Nat.min 2 64)=((31:Nat):Int):=by decide
     simp -implicitDefEqProofs (maxSteps:=1000000) only [go_sem,hK,q0,q1,w2,w3,List.getElem?_eq_getElem hk,eb,ek,ew,ef,em]
     exact tail 2 (byteN (b.drop k) 0 % 32) (by omega) (by omega)
    ·rw [hK] at hKl q0 q1
     have ek:decide (((3:Nat):Int) > 1)=true:=by decide
     rw [eg,tail3 (l:=b.drop k) (k:Int) (by omega) hv]
     have em:andK .i64 ((byteN (b.drop k) 0:Nat):Int) ((15:Nat):Int)=((byteN (b.drop k) 0 % 16:Nat):Int):=and_mask _ 4 hlt (by decide)
     have ew:IntKind.u64.wrap ((3:Nat):Int)=((3:Nat):Int):=by decide
     have ef:Int.fdiv 127 (2 ^ Nat.min 3 64)=((15:Nat):Int):=by decide
     simp -implicitDefEqProofs (maxSteps:=1000000) only [go_sem,hK,q0,q1,w2,w3,List.getElem?_eq_getElem hk,eb,ek,ew,ef,em]
     exact tail 3 (byteN (b.drop k) 0 % 16) (by omega) (by omega)
    ·rw [hK] at hKl q0 q1
     have ek:decide (((4:Nat):Int) > 1)=true:=by decide
     rw [eg,tail4 (l:=b.drop k) (k:Int) (by omega) hv]
     have em:andK .i64 ((byteN (b.drop k) 0:Nat):Int) ((7:Nat):Int)=((byteN (b.drop k) 0 % 8:Nat):Int):=and_mask _ 3 hlt (by decide)
     have ew:IntKind.u64.wrap ((4:Nat):Int)=((4:Nat):Int):=by decide
     have ef:Int.fdiv 127 (2 ^ Nat.min 4 64)=((7:Nat):Int):=by decide
     simp -implicitDefEqProofs (maxSteps:=1000000) only [go_sem,hK,q0,q1,w2,w3,List.getElem?_eq_getElem hk,eb,ek,ew,ef,em]
     exact tail 4 (byteN (b.drop k) 0 % 8) (by omega) (by omega)
   ·have e:=bad (.inr (by simp only [decide_eq_true_eq] at q1; omega))
    exact F4 q0 q1 w2 e
  ·have e:=bad (.inl (by have:=eq_of_beq q0; omega))
   exact F2 q0 e
 ·have e:=getSign_no hi
  have w1:IntKind.i64.wrap ((b.length:Int) - 1)=(b.length:Int) - 1:=IntWalk.i64_in _ (by omega)
  have g:win i 0 ((b.length:Int) - 1)=false:=by
   simp only [win,Bool.and_eq_false_imp,decide_eq_true_eq,decide_eq_false_iff_not]
   omega
  refine X1 x_s_GetSign.eq_1 w1 ?_
  exact D2 (c_s_l1In _ _ _) g e
def x_s_l11Who:FnX:=⟨32,[.tmp 2],
  .q [.v 1 0,.F 2]
 (.seq (.q [.f 3 1 10,.l 4 3,.B 5 .eql 4 0]
 (.c 5 (.q [.f 6 1 11,.l 7 6,.B 8 .eql 7 0,.m 9 8,.y 9 (.f 10 1 12),.y 9 (.l 11 10),.y 9 (.B 12 .eql 11 0),.a 13 9 12,.m 14 13,.y 14 (.f 15 1 0),.y 14 (.l 16 15),.y 14 (.B 17 .neq 16 4),.a 18 14 17,.m 2 18]
 .ret)))
 (.q [.f 19 1 10,.l 20 19,.op 21 (.call 120 [0,0,0] [(.t 20),(.i 1),(.i 9)]),.m 22 21,.y 22 (.f 23 1 11),.y 22 (.l 24 23),.y 22 (.c 25 161 [24]),.a 26 22 25,.m 27 26,.y 27 (.f 28 1 12),.y 27 (.l 29 28),.y 27 (.op 30 (.call 120 [0,0,0] [(.t 29),(.i 0),(.i 6)])),.a 31 27 30,.m 2 31]
 .ret))⟩
theorem r_s_l11Who {Te:TE} (c_s_l1In:C_s_l1In Te) (c_s_l1Word:C_s_l1Word Te):C_s_l11Who (RF Te x_s_l11Who):=by
 intro r
 refine X0 x_s_l11Who.eq_1 ?_
 cases g0:(r.Who==0)
 ·refine G1 g0 ?_
  refine C0 (c_s_l1In _ _ _) ?_
  cases g1:win r.Who 1 9
  ·try simp -implicitDefEqProofs (maxSteps:=1000000) only [go_sem,RecV.who,g0,g1]
   repeat refine ⟨sc,?_⟩
   try exact sf
  refine G0 ?_
  refine C0 (c_s_l1Word _) ?_
  cases g2:win r.Seq 0 65535
  ·try simp -implicitDefEqProofs (maxSteps:=1000000) only [go_sem,RecV.who,g0,g1,g2]
   repeat refine ⟨sc,?_⟩
   try exact sf
  refine G0 ?_
  refine .of (c_s_l1In _ _ _) ?_
  try simp -implicitDefEqProofs (maxSteps:=1000000) only [go_sem,RecV.who,g0,g1,g2]
  repeat refine ⟨sc,?_⟩
  try exact sf
 ·refine G1 g0 ?_
  cases g1:(r.Seq==0)
  ·try simp -implicitDefEqProofs (maxSteps:=1000000) only [go_sem,RecV.who,g0,g1]
   repeat refine ⟨sc,?_⟩
   try exact sf
  refine G1 g1 ?_
  cases g2:(r.Code==0)
  ·try simp -implicitDefEqProofs (maxSteps:=1000000) only [go_sem,RecV.who,g0,g1,g2]
   repeat refine ⟨sc,?_⟩
   try exact sf
  try simp -implicitDefEqProofs (maxSteps:=1000000) only [go_sem,RecV.who,g0,g1,g2]
  repeat refine ⟨sc,?_⟩
  try exact sf
def x_s_RecOk:FnX:=⟨48,[.tmp 2],
  .q [.v 1 0,.F 2]
 (.q [.f 6 1 1,.L 7 7 6,.c 8 334 [7],.m 3 8]
 (.q [.f 9 1 8,.l 10 9,.op 11 (.bin .eql (.t 10) (.k (.one (.pv (.string ⟨#[]⟩))))),.m 4 11]
 (.q [.f 12 1 9,.l 13 12,.B 14 .eql 13 0,.m 5 14]
 (.seq (.q [.f 15 1 0,.l 16 15]
 (.block 0 (.q [.B 18 .eql 16 1,.m 17 18]
 (.cond 17 (.reg [.f 19 1 1,.L 20 7 19,.c 21 289 [20],.m 3 21]) (.q [.B 23 .eql 16 2,.m 22 23]
 (.cond 22 (.reg [.f 24 1 8,.l 25 24,.c 26 101 [25],.m 4 26]) (.q [.B 28 .eql 16 3,.m 27 28]
 (.c 27 (.reg [.f 29 1 9,.l 30 29,.op 31 (.call 120 [0,0,0] [(.t 30),(.i 0),(.i 7)]),.m 5 31])))))))))
 (.q [.f 32 1 0,.l 33 32,.op 34 (.call 120 [0,0,0] [(.t 33),(.i 1),(.i 4)]),.m 35 34,.y 35 (.m 36 3),.a 37 35 36,.m 38 37,.y 38 (.m 39 4),.a 40 38 39,.m 41 40,.y 41 (.m 42 5),.a 43 41 42,.m 44 43,.y 44 (.L 45 13 1),.y 44 (.c 46 335 [45]),.a 47 44 46,.m 2 47]
 .ret)))))⟩
theorem r_s_RecOk {Te:TE} (c_s_l11NoRow:C_s_l11NoRow Te) (c_s_RowOk:C_s_RowOk Te) (c_s_NameOk:C_s_NameOk Te) (c_s_l1In:C_s_l1In Te) (c_s_l11Who:C_s_l11Who Te):C_s_RecOk (RF Te x_s_RecOk):=by
 intro r h
 refine run0 ?_
 have hR:=h.1
 have hK:=h.2
 simp -implicitDefEqProofs (maxSteps:=1000000) only [x_s_RecOk,go_sem,bytes_beq]
 repeat refine ⟨sc,?_⟩
 try exact sf
 refine .of (c_s_l11NoRow r.R) ?_
 try simp -implicitDefEqProofs (maxSteps:=1000000) only [go_sem,bytes_beq]
 repeat refine ⟨sc,?_⟩
 try exact sf
 cases gk:win r.Kind 1 4
 ·obtain ⟨k1,k2,k3,k4⟩:=kind_win gk
  refine G3 k1 k2 k3 ?_
  refine .of (c_s_l1In _ _ _) ?_
  try simp -implicitDefEqProofs (maxSteps:=1000000) only [go_sem,gk,RecV.ok,RecV.body,k1,k2,k3,k4]
  repeat refine ⟨sc,?_⟩
  try exact sf
 obtain ⟨kind,R,key,n,who,seq,code⟩:=r
 simp only at gk hR hK
 rcases win_kind gk with rfl | rfl | rfl | rfl
 ·skip
  refine G0 ?_
  refine C0 (c_s_RowOk R hR) ?_
  refine C1 (c_s_l1In _ _ _) gk ?_
  cases g1:R.ok
  ·try simp -implicitDefEqProofs (maxSteps:=1000000) only [go_sem,RecV.ok,RecV.body,g1]
   repeat refine ⟨sc,?_⟩
   try exact sf
  refine G0 ?_
  cases g2:decide (key=⟨#[]⟩)
  ·try simp -implicitDefEqProofs (maxSteps:=1000000) only [go_sem,RecV.ok,RecV.body,g1,g2]
   repeat refine ⟨sc,?_⟩
   try exact sf
  refine G0 ?_
  cases g3:(n==0)
  ·try simp -implicitDefEqProofs (maxSteps:=1000000) only [go_sem,RecV.ok,RecV.body,g1,g2,g3]
   repeat refine ⟨sc,?_⟩
   try exact sf
  refine G0 ?_
  refine .of (c_s_l11Who ⟨1,R,key,n,who,seq,code⟩) ?_
  try simp -implicitDefEqProofs (maxSteps:=1000000) only [go_sem,RecV.ok,RecV.body,g1,g2,g3]
  repeat refine ⟨sc,?_⟩
  try exact sf
 ·skip
  refine G0 ?_
  refine C0 (c_s_NameOk key hK) ?_
  refine C1 (c_s_l1In _ _ _) gk ?_
  cases g1:R.no
  ·try simp -implicitDefEqProofs (maxSteps:=1000000) only [go_sem,RecV.ok,RecV.body,g1]
   repeat refine ⟨sc,?_⟩
   try exact sf
  refine G0 ?_
  cases g2:nameOk key
  ·try simp -implicitDefEqProofs (maxSteps:=1000000) only [go_sem,RecV.ok,RecV.body,g1,g2]
   repeat refine ⟨sc,?_⟩
   try exact sf
  refine G0 ?_
  cases g3:(n==0)
  ·try simp -implicitDefEqProofs (maxSteps:=1000000) only [go_sem,RecV.ok,RecV.body,g1,g2,g3]
   repeat refine ⟨sc,?_⟩
   try exact sf
  refine G0 ?_
  refine .of (c_s_l11Who ⟨2,R,key,n,who,seq,code⟩) ?_
  try simp -implicitDefEqProofs (maxSteps:=1000000) only [go_sem,RecV.ok,RecV.body,g1,g2,g3]
  repeat refine ⟨sc,?_⟩
  try exact sf
 ·skip
  refine G0 ?_
  refine C0 (c_s_l1In _ _ _) ?_
  refine C1 (c_s_l1In _ _ _) gk ?_
  cases g1:R.no
  ·try simp -implicitDefEqProofs (maxSteps:=1000000) only [go_sem,RecV.ok,RecV.body,g1]
   repeat refine ⟨sc,?_⟩
   try exact sf
  refine G0 ?_
  cases g2:decide (key=⟨#[]⟩)
  ·try simp -implicitDefEqProofs (maxSteps:=1000000) only [go_sem,RecV.ok,RecV.body,g1,g2]
   repeat refine ⟨sc,?_⟩
   try exact sf
  refine G0 ?_
  cases g3:win n 0 7
  ·try simp -implicitDefEqProofs (maxSteps:=1000000) only [go_sem,RecV.ok,RecV.body,g1,g2,g3]
   repeat refine ⟨sc,?_⟩
   try exact sf
  refine G0 ?_
  refine .of (c_s_l11Who ⟨3,R,key,n,who,seq,code⟩) ?_
  try simp -implicitDefEqProofs (maxSteps:=1000000) only [go_sem,RecV.ok,RecV.body,g1,g2,g3]
  repeat refine ⟨sc,?_⟩
  try exact sf
 ·skip
  refine G0 ?_
  refine C1 (c_s_l1In _ _ _) gk ?_
  cases g1:R.no
  ·try simp -implicitDefEqProofs (maxSteps:=1000000) only [go_sem,RecV.ok,RecV.body,g1]
   repeat refine ⟨sc,?_⟩
   try exact sf
  refine G0 ?_
  cases g2:decide (key=⟨#[]⟩)
  ·try simp -implicitDefEqProofs (maxSteps:=1000000) only [go_sem,RecV.ok,RecV.body,g1,g2]
   repeat refine ⟨sc,?_⟩
   try exact sf
  refine G0 ?_
  cases g3:(n==0)
  ·try simp -implicitDefEqProofs (maxSteps:=1000000) only [go_sem,RecV.ok,RecV.body,g1,g2,g3]
   repeat refine ⟨sc,?_⟩
   try exact sf
  refine G0 ?_
  refine .of (c_s_l11Who ⟨4,R,key,n,who,seq,code⟩) ?_
  try simp -implicitDefEqProofs (maxSteps:=1000000) only [go_sem,RecV.ok,RecV.body,g1,g2,g3]
  repeat refine ⟨sc,?_⟩
  try exact sf
def x_i_WorldNew:FnX:=⟨18,[.cell 2 (some 9)],
  .q [.op 2 (.alloc [.i 0,.nils 1,.nils 1,.nils 1,.nils 10,.nils 12,.nils 8,.nils 6,.nils 1])]
 (.seq (.q [.m 3 0,.op 4 (.call 90 [0,0,0] [(.t 3),(.i 1),(.i 5)]),.N 5 4]
 (.c 5 (.q [.op 6 (.build [.i 0,.nils 1,.nils 1,.nils 1,.nils 10,.nils 12,.nils 8,.nils 6,.nils 1] []),.s 100001 9 2 6]
 .ret)))
 (.seq (.draw [.c 7 149 [],.m 8 0,.c 9 44 [8],.m 10 0,.c 11 44 [10],.op 12 (.bslice 10 [(.t 9),(.t 11)]),.op 13 (.call 150 [0] [(.i 1)]),.op 14 (.call 150 [0] [(.i 2)]),.op 15 (.bslice 12 [(.t 13),(.t 14)]),.op 16 (.mks 1 24 [.sl true 6 () []] (.i 2)),.op 17 (.build [.i 0,.nils 1,.nils 1,.nils 1,.nils 10,.nils 12,.nils 8,.nils 6,.nils 1] [(0,4,(.t 7)),(4,1,(.t 12)),(5,1,(.t 15)),(8,1,(.t 16))]),.s 100002 9 2 17] [[],[],[1,0],[],[3,2],[2,4],[4],[6],[6,7],[],[0,5,8,9],[10,7,0,1,2,3,4,5,6,7,8,9,10]])
 .ret))⟩
theorem r_i_WorldNew {Te:TE} (c_i_within:C_i_within Te) (c_i_LeadNew:C_i_LeadNew Te) (c_i_NodeNew:C_i_NodeNew Te) (c_i_ClientNew:C_i_ClientNew Te):C_i_WorldNew (RF Te x_i_WorldNew):=by
 intro cs
 refine X0 x_i_WorldNew.eq_1 ?_
 refine C0 (c_i_within _ _ _) ?_
 cases g:win cs 1 5
 ·have e:worldNew cs=⟨⟨0,[],[],[]⟩,[],[],[],[],[]⟩:=by rw [worldNew,g]; rfl
  exact F1 e
 ·have e:worldNew cs=⟨leadIn 0,[nodeNew cs,nodeNew cs],[client0 1,client0 2],[],[],[[],[]]⟩:=by rw [worldNew,g]; rfl
  refine G0 ?_
  refine C0 (c_i_LeadNew) ?_
  refine C0 (c_i_NodeNew cs) ?_
  refine C0 (c_i_NodeNew cs) ?_
  refine C0 (c_i_ClientNew 1) ?_
  exact D1 (c_i_ClientNew 2) e
def x_s_WorldNew:FnX:=⟨18,[.cell 2 (some 9)],
  .q [.op 2 (.alloc [.i 0,.nils 1,.nils 1,.nils 1,.nils 10,.nils 12,.nils 8,.nils 6,.nils 1])]
 (.seq (.q [.m 3 0,.op 4 (.call 120 [0,0,0] [(.t 3),(.i 1),(.i 5)]),.N 5 4]
 (.c 5 (.q [.op 6 (.build [.i 0,.nils 1,.nils 1,.nils 1,.nils 10,.nils 12,.nils 8,.nils 6,.nils 1] []),.s 100001 9 2 6]
 .ret)))
 (.seq (.draw [.c 7 147 [],.m 8 0,.c 9 45 [8],.m 10 0,.c 11 45 [10],.op 12 (.bslice 10 [(.t 9),(.t 11)]),.op 13 (.call 148 [0] [(.i 1)]),.op 14 (.call 148 [0] [(.i 2)]),.op 15 (.bslice 12 [(.t 13),(.t 14)]),.op 16 (.mks 1 24 [.sl true 6 () []] (.i 2)),.op 17 (.build [.i 0,.nils 1,.nils 1,.nils 1,.nils 10,.nils 12,.nils 8,.nils 6,.nils 1] [(0,4,(.t 7)),(4,1,(.t 12)),(5,1,(.t 15)),(8,1,(.t 16))]),.s 100002 9 2 17] [[],[],[1,0],[],[3,2],[2,4],[4],[6],[6,7],[],[0,5,8,9],[10,7,0,1,2,3,4,5,6,7,8,9,10]])
 .ret))⟩
theorem r_s_WorldNew {Te:TE} (c_s_l1In:C_s_l1In Te) (c_s_LeadNew:C_s_LeadNew Te) (c_s_NodeNew:C_s_NodeNew Te) (c_s_ClientNew:C_s_ClientNew Te):C_s_WorldNew (RF Te x_s_WorldNew):=by
 intro cs
 refine X0 x_s_WorldNew.eq_1 ?_
 refine C0 (c_s_l1In _ _ _) ?_
 cases g:win cs 1 5
 ·have e:worldNew cs=⟨⟨0,[],[],[]⟩,[],[],[],[],[]⟩:=by rw [worldNew,g]; rfl
  exact F1 e
 ·have e:worldNew cs=⟨leadIn 0,[nodeNew cs,nodeNew cs],[client0 1,client0 2],[],[],[[],[]]⟩:=by rw [worldNew,g]; rfl
  refine G0 ?_
  refine C0 (c_s_LeadNew) ?_
  refine C0 (c_s_NodeNew cs) ?_
  refine C0 (c_s_NodeNew cs) ?_
  refine C0 (c_s_ClientNew 1) ?_
  exact D1 (c_s_ClientNew 2) e
def x_l_toMarkS:FnX:=⟨23,[.tmp 2],
  .q [.op 2 (.mv (.k (.one (.nils 3))))]
 (.q [.m 5 0,.n 6 5,.op 7 (.mks 3 24 [.pv (.int .i64 0),.pv (.int .i64 0),.pv (.int .i64 0)] (.t 6)),.m 3 7]
 (.seq (.q [.i 4 0]
 (.block 0 (.loop [0,3,4] (.seq (.q [.m 8 4,.m 9 0,.n 10 9,.b 11 .lss 8 10]
 (.cond 11 .skip (.exit 0)))
 (.seq (.block 1 (.reg [.m 14 3,.m 15 4,.m 16 0,.m 17 4,.x 18 3 16 17,.L 19 3 18,.c 20 379 [19],.x 21 3 14 15,.s 100001 3 21 20]))
 (.reg [.m 12 4,.B 13 .add 12 1,.m 4 13]))))))
 (.norm [3] (.q [.m 22 3,.m 2 22]
 .ret))))⟩
theorem r_l_toMarkS {Te:TE} (c_l_toMark:C_l_toMark Te):C_l_toMarkS (RF Te x_l_toMarkS):=by
 intro l hl
 refine run0 ?_
 simp -implicitDefEqProofs (maxSteps:=1000000) (disch:=omega) only [x_l_toMarkS,go_sem,IntWalk.i64_in]
 refine ⟨⟨by simp only [decide_eq_true_eq]; omega,by simp only [decide_eq_true_eq]; omega⟩,?_⟩
 refine loop_of (σ:=Nat) (fun i=>⟨[(0,.one (.ro 3 (l.map MarkV.row))),(3,.one (.rf 24 0 [] 3 0 l.length)),(4,.one (.pv (.int .i64 i)))],[],
  [(0,[slT false 3 MarkV.row l]),(24,[.sl true 3 () ((l.take i).map MarkV.row++List.replicate (l.length - i) [.pv (.int .i64 0),.pv (.int .i64 0),.pv (.int .i64 0)])])]⟩) (fun i=>i≤l.length) (fun i=>l.length - i) 0 ?_ (Nat.zero_le _) ?_
 ·simp -implicitDefEqProofs (maxSteps:=1000000) only [go_sem]; rfl
 ·intro i hi
  simp -implicitDefEqProofs (maxSteps:=1000000) only [go_sem]
  refine ⟨fun h=>?_,fun h=>?_⟩
  ·have hi':i < l.length:=by simp only [decide_eq_true_eq] at h; omega
   simp -implicitDefEqProofs (maxSteps:=1000000) only [go_sem,List.getElem?_eq_getElem hi',fill_len MarkV.row l [.pv (.int .i64 0),.pv (.int .i64 0),.pv (.int .i64 0)] hi,storeAp,setCells,List.getD_eq_getElem?_getD,fill_get MarkV.row l [.pv (.int .i64 0),.pv (.int .i64 0),.pv (.int .i64 0)] hi']
   refine .of (c_l_toMark _) ?_
   simp -implicitDefEqProofs (maxSteps:=1000000) only [go_sem,fill_len MarkV.row l [.pv (.int .i64 0),.pv (.int .i64 0),.pv (.int .i64 0)] hi,storeAp,setCells,List.getD_eq_getElem?_getD,fill_get MarkV.row l [.pv (.int .i64 0),.pv (.int .i64 0),.pv (.int .i64 0)] hi']
   repeat (first | refine ⟨by decide,?_⟩ | refine ⟨by simpa using hi',?_⟩)
   refine ⟨i + 1,?_,hi',by omega⟩
   rw [← fill_set MarkV.row l [.pv (.int .i64 0),.pv (.int .i64 0),.pv (.int .i64 0)] hi',IntWalk.i64_in _ (by omega)]
   rfl
  ·have:i=l.length:=by simp only [decide_eq_false_iff_not] at h; omega
   subst this
   simp -implicitDefEqProofs (maxSteps:=1000000) only [go_sem,fill_len MarkV.row l [.pv (.int .i64 0),.pv (.int .i64 0),.pv (.int .i64 0)] hi,fill_end]
   refine ⟨by simp,?_⟩
   simp [take_map]
def x_l_eqMarkS:FnX:=⟨27,[.tmp 4],
  .q [.F 4]
 (.seq (.q [.m 6 0,.n 7 6,.m 8 1,.n 9 8,.b 10 .neq 7 9]
 (.c 10 (.q [.F 4]
 .ret)))
 (.seq (.q [.i 5 0]
 (.block 0 (.loop [0,1,5] (.seq (.q [.m 11 5,.m 12 0,.n 13 12,.b 14 .lss 11 13]
 (.cond 14 .skip (.exit 0)))
 (.seq (.block 1 (.seq (.draw [.m 17 0,.m 18 5,.x 19 3 17 18,.L 20 3 19,.m 21 1,.m 22 5,.x 23 3 21 22,.L 24 3 23,.c 25 383 [20,24],.N 26 25] [[],[],[0,1],[2],[],[],[4,5],[6],[3,7],[8]])
 (.c 26 (.q [.F 4]
 .ret))))
 (.reg [.m 15 5,.B 16 .add 15 1,.m 5 16]))))))
 (.norm [] (.q [.T 4]
 .ret))))⟩
theorem r_l_eqMarkS {Te:TE} (c_l_eqMark:C_l_eqMark Te):C_l_eqMarkS (RF Te x_l_eqMarkS):=by
 intro l m hl
 refine run0 ?_
 simp -implicitDefEqProofs (maxSteps:=1000000) (disch:=omega) only [x_l_eqMarkS,go_sem,IntWalk.i64_in]
 refine ⟨fun h=>?_,fun h=>?_⟩
 ·have:l≠m:=fun e=>by simp [e] at h
  simp [this]
 ·have hlen:l.length=m.length:=by simp at h; omega
  refine loop_of (σ:=Nat) (fun i=>⟨[(0,.one (.ro 3 (l.map MarkV.row))),(1,.one (.ro 3 (m.map MarkV.row))),(5,.one (.pv (.int .i64 i)))],[],[(0,[slT false 3 MarkV.row l]),(1,[slT false 3 MarkV.row m])]⟩) (fun i=>i≤l.length∧l.take i=m.take i) (fun i=>l.length - i) 0 ?_ ⟨Nat.zero_le _,by simp⟩ ?_
  ·simp -implicitDefEqProofs (maxSteps:=1000000) only [go_sem]; rfl
  ·intro i ⟨hi,hs⟩
   simp -implicitDefEqProofs (maxSteps:=1000000) only [go_sem]
   refine ⟨fun h=>?_,fun h=>?_⟩
   ·have hi':i < l.length:=by simp only [decide_eq_true_eq] at h; omega
    have hj':i < m.length:=by omega
    simp -implicitDefEqProofs (maxSteps:=1000000) only [go_sem,List.getElem?_eq_getElem hi',List.getElem?_eq_getElem hj']
    refine .of (c_l_eqMark _ _) ?_
    simp -implicitDefEqProofs (maxSteps:=1000000) only [go_sem]
    refine ⟨by decide,fun h2=>?_,fun h2=>?_⟩
    ·have:l≠m:=fun e=>by subst e; simp at h2
     simp [this]
    ·refine ⟨i + 1,by rw [IntWalk.i64_in _ (by omega)]; rfl,⟨hi',same_step hi' hj' hs ?_⟩,by omega⟩
     simpa using h2
   ·have hle:l.length≤i:=by simp only [decide_eq_false_iff_not] at h; omega
    have:l=m:=same_end hle (by omega) hs
    simp [this]
def x_l_markMarkS_2:XCode:=.q [.m 26 0,.m 27 5,.m 28 1,.x 29 3 26 27,.f 30 29 2,.s 100003 1 30 28]
 (.reg [.m 31 1,.B 32 .add 31 1,.m 1 32])
def x_l_markMarkS_1:XCode:=.q [.m 19 0,.m 20 5,.m 21 1,.x 22 3 19 20,.f 23 22 1,.s 100002 1 23 21]
 (.q [.m 24 1,.B 25 .add 24 1,.m 1 25]
 x_l_markMarkS_2)
def x_l_markMarkS:FnX:=⟨34,[.tmp 4],
  .q [.i 4 0]
 (.seq (.q [.i 5 0]
 (.block 0 (.loop [0,1,5] (.seq (.q [.m 6 5,.m 7 0,.n 8 7,.b 9 .lss 6 8]
 (.cond 9 .skip (.exit 0)))
 (.seq (.block 1 (.q [.m 12 0,.m 13 5,.m 14 1,.x 15 3 12 13,.f 16 15 0,.s 100001 1 16 14]
 (.q [.m 17 1,.B 18 .add 17 1,.m 1 18]
 x_l_markMarkS_1)))
 (.reg [.m 10 5,.B 11 .add 10 1,.m 5 11]))))))
 (.norm [1] (.q [.m 33 1,.m 4 33]
 .ret)))⟩
theorem r_l_markMarkS {Te:TE}:C_l_markMarkS (RF Te x_l_markMarkS):=by
 intro l k hl hk
 refine run0 ?_
 simp -implicitDefEqProofs (maxSteps:=1000000) (disch:=omega) only [x_l_markMarkS,go_sem,IntWalk.i64_in]
 refine loop_of (σ:=Nat) (fun i=>⟨[(0,.one (.rf 0 0 [] 3 0 l.length)),(1,.one (.pv (.int .i64 (k + (3 * i:Nat))))),(5,.one (.pv (.int .i64 i)))],[],[(0,[.sl true 3 () ((marks 3 mkMark i k).map MarkV.row++(l.drop i).map MarkV.row)]),(1,[iT k])]⟩) (fun i=>i≤l.length) (fun i=>l.length - i) 0 ?_ (Nat.zero_le _) ?_
 ·simp -implicitDefEqProofs (maxSteps:=1000000) only [go_sem]; simp [marks]
 ·intro i hi
  simp -implicitDefEqProofs (maxSteps:=1000000) only [go_sem]
  refine ⟨fun h=>?_,fun h=>?_⟩
  ·have hi':i < l.length:=by simp only [decide_eq_true_eq] at h; omega
   try simp -implicitDefEqProofs (maxSteps:=1000000) (disch:=omega) only [go_sem,storeAp,setCells,List.length_set,List.set_set,mark_len MarkV.row 3 mkMark l k hi,List.getD_eq_getElem?_getD,mark_get MarkV.row 3 mkMark l k hi',mark_reget MarkV.row 3 mkMark l k hi',Option.getD_some,IntWalk.i64_in]
   repeat (first | refine ⟨by decide,?_⟩ | refine ⟨decide_eq_true hi',?_⟩)
   simp -implicitDefEqProofs (maxSteps:=1000000) (disch:=omega) only [x_l_markMarkS_1,go_sem,storeAp,setCells,List.length_set,List.set_set,mark_len MarkV.row 3 mkMark l k hi,List.getD_eq_getElem?_getD,mark_get MarkV.row 3 mkMark l k hi',mark_reget MarkV.row 3 mkMark l k hi',Option.getD_some,IntWalk.i64_in]
   repeat (first | refine ⟨by decide,?_⟩ | refine ⟨decide_eq_true hi',?_⟩)
   simp -implicitDefEqProofs (maxSteps:=1000000) (disch:=omega) only [x_l_markMarkS_2,go_sem,storeAp,setCells,List.length_set,List.set_set,mark_len MarkV.row 3 mkMark l k hi,List.getD_eq_getElem?_getD,mark_get MarkV.row 3 mkMark l k hi',mark_reget MarkV.row 3 mkMark l k hi',Option.getD_some,IntWalk.i64_in]
   repeat (first | refine ⟨by decide,?_⟩ | refine ⟨decide_eq_true hi',?_⟩)
   refine ⟨i + 1,?_,hi',by omega⟩
   rw [← mark_set MarkV.row 3 mkMark l k hi',show k + ((3 * (i + 1):Nat):Int)=k + (3 * i:Nat) + 1 + 1 + 1 by omega]
   rfl
  ·have:i=l.length:=by simp only [decide_eq_false_iff_not] at h; omega
   subst this
   simp -implicitDefEqProofs (maxSteps:=1000000) only [go_sem,mark_end]
def x_l_eqWrS:FnX:=⟨27,[.tmp 4],
  .q [.F 4]
 (.seq (.q [.m 6 0,.n 7 6,.m 8 1,.n 9 8,.b 10 .neq 7 9]
 (.c 10 (.q [.F 4]
 .ret)))
 (.seq (.q [.i 5 0]
 (.block 0 (.loop [0,1,5] (.seq (.q [.m 11 5,.m 12 0,.n 13 12,.b 14 .lss 11 13]
 (.cond 14 .skip (.exit 0)))
 (.seq (.block 1 (.seq (.draw [.m 17 0,.m 18 5,.x 19 2 17 18,.L 20 2 19,.m 21 1,.m 22 5,.x 23 2 21 22,.L 24 2 23,.c 25 381 [20,24],.N 26 25] [[],[],[0,1],[2],[],[],[4,5],[6],[3,7],[8]])
 (.c 26 (.q [.F 4]
 .ret))))
 (.reg [.m 15 5,.B 16 .add 15 1,.m 5 16]))))))
 (.norm [] (.q [.T 4]
 .ret))))⟩
theorem r_l_eqWrS {Te:TE} (c_l_eqWr:C_l_eqWr Te):C_l_eqWrS (RF Te x_l_eqWrS):=by
 intro l m hl
 refine run0 ?_
 have hl1:=hl.1
 simp -implicitDefEqProofs (maxSteps:=1000000) (disch:=omega) only [x_l_eqWrS,go_sem,IntWalk.i64_in]
 refine ⟨fun h=>?_,fun h=>?_⟩
 ·have:l≠m:=fun e=>by simp [e] at h
  simp [this]
 ·have hlen:l.length=m.length:=by simp at h; omega
  refine loop_of (σ:=Nat) (fun i=>⟨[(0,.one (.ro 2 (l.map (WrV.enc false)))),(1,.one (.ro 2 (m.map (WrV.enc false)))),(5,.one (.pv (.int .i64 i)))],[],[(0,[slT false 2 (WrV.enc false) l]),(1,[slT false 2 (WrV.enc false) m])]⟩) (fun i=>i≤l.length∧l.take i=m.take i) (fun i=>l.length - i) 0 ?_ ⟨Nat.zero_le _,by simp⟩ ?_
  ·simp -implicitDefEqProofs (maxSteps:=1000000) only [go_sem]; rfl
  ·intro i ⟨hi,hs⟩
   simp -implicitDefEqProofs (maxSteps:=1000000) only [go_sem]
   refine ⟨fun h=>?_,fun h=>?_⟩
   ·have hi':i < l.length:=by simp only [decide_eq_true_eq] at h; omega
    have hj':i < m.length:=by omega
    simp -implicitDefEqProofs (maxSteps:=1000000) only [go_sem,List.getElem?_eq_getElem hi',List.getElem?_eq_getElem hj']
    refine .of (c_l_eqWr _ _ (hl.2 _ (List.getElem_mem hi'))) ?_
    simp -implicitDefEqProofs (maxSteps:=1000000) only [go_sem]
    refine ⟨by decide,fun h2=>?_,fun h2=>?_⟩
    ·have:l≠m:=fun e=>by subst e; simp at h2
     simp [this]
    ·refine ⟨i + 1,by rw [IntWalk.i64_in _ (by omega)]; rfl,⟨hi',same_step hi' hj' hs ?_⟩,by omega⟩
     simpa using h2
   ·have hle:l.length≤i:=by simp only [decide_eq_false_iff_not] at h; omega
    have:l=m:=same_end hle (by omega) hs
    simp [this]
def x_l_markWrS:FnX:=⟨27,[.tmp 4],
  .q [.i 4 0]
 (.seq (.q [.i 5 0]
 (.block 0 (.loop [0,1,5] (.seq (.q [.m 6 5,.m 7 0,.n 8 7,.b 9 .lss 6 8]
 (.cond 9 .skip (.exit 0)))
 (.seq (.block 1 (.q [.m 12 0,.m 13 5,.m 14 1,.x 15 2 12 13,.f 16 15 0,.s 100001 1 16 14]
 (.q [.m 17 1,.B 18 .add 17 1,.m 1 18]
 (.reg [.m 19 0,.m 20 5,.x 21 2 19 20,.f 22 21 1,.l 23 22,.m 24 1,.op 25 (.io 300 (.t 23) [(.t 24)]),.m 1 25]))))
 (.reg [.m 10 5,.B 11 .add 10 1,.m 5 11]))))))
 (.norm [1] (.q [.m 26 1,.m 4 26]
 .ret)))⟩
theorem r_l_markWrS {Te:TE} (c_l_markByteS:C_l_markByteS Te):C_l_markWrS (RF Te x_l_markWrS):=by
 intro l k hl hk
 refine run0 ?_
 have hl1:=hl.1
 simp -implicitDefEqProofs (maxSteps:=1000000) (disch:=omega) only [x_l_markWrS,go_sem,IntWalk.i64_in]
 refine loop_of (σ:=Nat) (fun i=>⟨[(0,.one (.rf 0 0 [] 2 0 l.length)),(1,.one (.pv (.int .i64 (farL WrV.farE (l.take i) k)))),(5,.one (.pv (.int .i64 i)))],[],[(0,[.sl true 2 () ((markL WrV.markE WrV.farE (l.take i) k).map (WrV.enc true)++(l.drop i).map (WrV.enc true))]),(1,[iT k])]⟩) (fun i=>i≤l.length) (fun i=>l.length - i) 0 ?_ (Nat.zero_le _) ?_
 ·simp -implicitDefEqProofs (maxSteps:=1000000) only [go_sem]; simp [markL,farL]
 ·intro i hi
  simp -implicitDefEqProofs (maxSteps:=1000000) only [go_sem]
  refine ⟨fun h=>?_,fun h=>?_⟩
  ·have hi':i < l.length:=by simp only [decide_eq_true_eq] at h; omega
   have hb:k≤farL WrV.farE (l.take i) k∧farL WrV.farE (l.take i) k≤k + 4398048608256:=by
    have q:=farL_le (n:=2 ^ 21) (k:=k) (c:=2097153) (l:=l.take i) ⟨by rw [List.length_take]; omega,fun y hy=>hl.2 y (List.mem_of_mem_take hy)⟩ (fun y hy k=>WrV.farE_le hy k)
    omega
   have he:=hl.2 _ (List.getElem_mem hi')
   have hset:=markL_set (WrV.enc true) WrV.markE WrV.farE l k hi'
   have hnext:=farL_take WrV.farE l k hi'
   have e0:l[i].B.length≤2 ^ 21:=he
   generalize farL WrV.farE (l.take i) k=j at hb hset hnext ⊢
   try simp -implicitDefEqProofs (maxSteps:=1000000) (disch:=omega) only [go_sem,storeAp,setCells,List.length_set,List.set_set,markL_len (WrV.enc true) WrV.markE WrV.farE l k hi,List.getD_eq_getElem?_getD,markL_at (WrV.enc true) WrV.markE WrV.farE l k hi',markL_reat (WrV.enc true) WrV.markE WrV.farE l k hi',Option.getD_some,IntWalk.i64_in]
   repeat (first | refine ⟨by decide,?_⟩ | refine ⟨decide_eq_true hi',?_⟩)
   refine .of (c_l_markByteS (l[i].B) _ (by omega) (by omega)) ?_
   simp -implicitDefEqProofs (maxSteps:=1000000) (disch:=omega) only [go_sem,storeAp,setCells,List.length_set,List.set_set,markL_len (WrV.enc true) WrV.markE WrV.farE l k hi,List.getD_eq_getElem?_getD,markL_at (WrV.enc true) WrV.markE WrV.farE l k hi',markL_reat (WrV.enc true) WrV.markE WrV.farE l k hi',Option.getD_some,IntWalk.i64_in]
   repeat (first | refine ⟨by decide,?_⟩ | refine ⟨decide_eq_true hi',?_⟩)
   refine ⟨i + 1,?_,hi',by omega⟩
   rw [hnext,← hset]
   rfl
  ·have:i=l.length:=by simp only [decide_eq_false_iff_not] at h; omega
   subst this
   simp -implicitDefEqProofs (maxSteps:=1000000) only [go_sem,List.take_length,List.drop_length,List.map_nil,List.append_nil]
def x_l_heldWrS:FnX:=⟨31,[.tmp 4],
  .q [.i 4 0]
 (.seq (.q [.i 5 0]
 (.block 0 (.loop [0,1,5] (.seq (.q [.m 6 5,.m 7 0,.n 8 7,.b 9 .lss 6 8]
 (.cond 9 .skip (.exit 0)))
 (.seq (.block 1 (.seq (.q [.m 12 0,.m 13 5,.x 14 2 12 13,.f 15 14 0,.l 16 15,.m 17 1,.b 18 .neq 16 17]
 (.c 18 (.q [.i 4 (-1)]
 .ret)))
 (.q [.m 19 1,.B 20 .add 19 1,.m 1 20]
 (.q [.m 21 0,.m 22 5,.x 23 2 21 22,.f 24 23 1,.l 25 24,.m 26 1,.c 27 301 [25,26],.m 1 27]
 (.q [.m 28 1,.B 29 .lss 28 0]
 (.c 29 (.q [.i 4 (-1)]
 .ret)))))))
 (.reg [.m 10 5,.B 11 .add 10 1,.m 5 11]))))))
 (.norm [1] (.q [.m 30 1,.m 4 30]
 .ret)))⟩
theorem r_l_heldWrS {Te:TE} (c_l_heldByteS:C_l_heldByteS Te):C_l_heldWrS (RF Te x_l_heldWrS):=by
 intro l k hl hk
 refine run0 ?_
 have hl1:=hl.1
 simp -implicitDefEqProofs (maxSteps:=1000000) (disch:=omega) only [x_l_heldWrS,go_sem,IntWalk.i64_in]
 refine loop_of (σ:=Nat) (fun i=>⟨[(0,.one (.ro 2 ((markL WrV.markE WrV.farE l k).map (WrV.enc false)))),(1,.one (.pv (.int .i64 (farL WrV.farE (l.take i) k)))),(5,.one (.pv (.int .i64 i)))],[],[(0,[slT false 2 (WrV.enc false) (markL WrV.markE WrV.farE l k)]),(1,[iT k])]⟩) (fun i=>i≤l.length) (fun i=>l.length - i) 0 ?_ (Nat.zero_le _) ?_
 ·simp -implicitDefEqProofs (maxSteps:=1000000) only [go_sem]; simp [farL]
 ·intro i hi
  simp -implicitDefEqProofs (maxSteps:=1000000) only [go_sem,markL_length]
  refine ⟨fun h=>?_,fun h=>?_⟩
  ·have hi':i < l.length:=by simp only [decide_eq_true_eq] at h; omega
   have hb:k≤farL WrV.farE (l.take i) k∧farL WrV.farE (l.take i) k≤k + 4398048608256:=by
    have q:=farL_le (n:=2 ^ 21) (k:=k) (c:=2097153) (l:=l.take i) ⟨by rw [List.length_take]; omega,fun y hy=>hl.2 y (List.mem_of_mem_take hy)⟩ (fun y hy k=>WrV.farE_le hy k)
    omega
   have he:=hl.2 _ (List.getElem_mem hi')
   have hget:=markL_get WrV.markE WrV.farE l k hi'
   have hnext:=farL_take WrV.farE l k hi'
   have e0:l[i].B.length≤2 ^ 21:=he
   generalize farL WrV.farE (l.take i) k=j at hb hget hnext ⊢
   simp only [WrV.markE] at hget
   try simp -implicitDefEqProofs (maxSteps:=1000000) (disch:=omega) only [go_sem,hget,IntWalk.i64_in,mkB,bne_self_eq_false,decide_true,Bool.not_true]
   repeat (refine ⟨by decide,?_⟩)
   refine .of (c_l_heldByteS (l[i].B.length) _ (by omega) (by omega)) ?_
   simp -implicitDefEqProofs (maxSteps:=1000000) (disch:=omega) only [go_sem,hget,IntWalk.i64_in,mkB,bne_self_eq_false,decide_true,Bool.not_true]
   refine ⟨fun q=>by simp only [decide_eq_true_eq] at q; omega,fun _=>?_⟩
   try simp -implicitDefEqProofs (maxSteps:=1000000) (disch:=omega) only [go_sem,hget,IntWalk.i64_in,mkB,bne_self_eq_false,decide_true,Bool.not_true]
   repeat (refine ⟨by decide,?_⟩)
   refine ⟨i + 1,?_,hi',by omega⟩
   rw [hnext]
   rfl
  ·have:i=l.length:=by simp only [decide_eq_false_iff_not] at h; omega
   subst this
   simp -implicitDefEqProofs (maxSteps:=1000000) only [go_sem,List.take_length]
def x_i_PairSign:FnX:=⟨26,[.tmp 4,.tmp 5],
  .q [.i 4 0,.F 5]
 (.seq (.block 0 (.q [.m 7 0,.B 8 .eql 7 164,.m 9 8,.y 9 (.m 10 1),.y 9 (.op 11 (.call 90 [0,0,0] [(.t 10),(.i 161),(.i 243)])),.a 12 9 11,.m 6 12]
 (.cond 6 (.q [.m 13 1,.op 14 (.bin .add (.i 12353) (.t 13)),.B 15 .sub 14 161,.m 4 15,.T 5]
 .ret) (.q [.m 17 0,.B 18 .eql 17 165,.m 19 18,.y 19 (.m 20 1),.y 19 (.op 21 (.call 90 [0,0,0] [(.t 20),(.i 161),(.i 246)])),.a 22 19 21,.m 16 22]
 (.c 16 (.q [.m 23 1,.op 24 (.bin .add (.i 12449) (.t 23)),.B 25 .sub 24 161,.m 4 25,.T 5]
 .ret))))))
 (.q [.i 4 0,.F 5]
 .ret))⟩
theorem r_i_PairSign {Te:TE} (c_i_within:C_i_within Te):C_i_PairSign (RF Te x_i_PairSign):=by
 intro hi lo h
 refine run0 ?_
 have w1:IntKind.i64.wrap (12353 + lo)=12353 + lo:=IntWalk.i64_in _ (by omega)
 have w2:IntKind.i64.wrap (12353 + lo - 161)=12353 + lo - 161:=IntWalk.i64_in _ (by omega)
 have w3:IntKind.i64.wrap (12449 + lo)=12449 + lo:=IntWalk.i64_in _ (by omega)
 have w4:IntKind.i64.wrap (12449 + lo - 161)=12449 + lo - 161:=IntWalk.i64_in _ (by omega)
 have no:∀ a b c d:Bool,(a&&b)=false→(c&&d)=false→True:=fun _ _ _ _ _ _=>trivial
 cases g1:(hi==164)
 ·cases g3:(hi==165)
  ·have e:pairSign hi lo=(0,false):=by rw [pairSign,g1,g3]; rfl
   simp -implicitDefEqProofs (maxSteps:=1000000) only [x_i_PairSign,go_sem,g1,g3,e]
   repeat refine ⟨sc,?_⟩
   try exact sf
  ·simp -implicitDefEqProofs (maxSteps:=1000000) only [x_i_PairSign,go_sem,g1,g3]
   repeat refine ⟨sc,?_⟩
   try exact sf
   refine C0 (c_i_within _ _ _) ?_
   cases g4:win lo 161 246
   ·have e:pairSign hi lo=(0,false):=by rw [pairSign,g1,g3,g4]; rfl
    exact F1 e
   ·have e:pairSign hi lo=(12449 + lo - 161,true):=by rw [pairSign,g1,g3,g4]; rfl
    exact F3 e w3 w4
 ·have g3:(hi==165)=false:=by have:=eq_of_beq g1; subst this; rfl
  simp -implicitDefEqProofs (maxSteps:=1000000) only [x_i_PairSign,go_sem,g1]
  repeat refine ⟨sc,?_⟩
  try exact sf
  refine C0 (c_i_within _ _ _) ?_
  cases g4:win lo 161 243
  ·have e:pairSign hi lo=(0,false):=by rw [pairSign,g1,g3,g4]; rfl
   exact F2 g3 e
  ·have e:pairSign hi lo=(12353 + lo - 161,true):=by rw [pairSign,g1,g4]; rfl
   exact F3 e w1 w2
def x_s_PairSign:FnX:=⟨26,[.tmp 4,.tmp 5],
  .q [.i 4 0,.F 5]
 (.seq (.block 0 (.q [.m 7 0,.B 8 .eql 7 164,.m 9 8,.y 9 (.m 10 1),.y 9 (.op 11 (.call 120 [0,0,0] [(.t 10),(.i 161),(.i 243)])),.a 12 9 11,.m 6 12]
 (.cond 6 (.q [.m 13 1,.op 14 (.bin .add (.i 12353) (.t 13)),.B 15 .sub 14 161,.m 4 15,.T 5]
 .ret) (.q [.m 17 0,.B 18 .eql 17 165,.m 19 18,.y 19 (.m 20 1),.y 19 (.op 21 (.call 120 [0,0,0] [(.t 20),(.i 161),(.i 246)])),.a 22 19 21,.m 16 22]
 (.c 16 (.q [.m 23 1,.op 24 (.bin .add (.i 12449) (.t 23)),.B 25 .sub 24 161,.m 4 25,.T 5]
 .ret))))))
 (.q [.i 4 0,.F 5]
 .ret))⟩
theorem r_s_PairSign {Te:TE} (c_s_l1In:C_s_l1In Te):C_s_PairSign (RF Te x_s_PairSign):=by
 intro hi lo h
 refine run0 ?_
 have w1:IntKind.i64.wrap (12353 + lo)=12353 + lo:=IntWalk.i64_in _ (by omega)
 have w2:IntKind.i64.wrap (12353 + lo - 161)=12353 + lo - 161:=IntWalk.i64_in _ (by omega)
 have w3:IntKind.i64.wrap (12449 + lo)=12449 + lo:=IntWalk.i64_in _ (by omega)
 have w4:IntKind.i64.wrap (12449 + lo - 161)=12449 + lo - 161:=IntWalk.i64_in _ (by omega)
 have no:∀ a b c d:Bool,(a&&b)=false→(c&&d)=false→True:=fun _ _ _ _ _ _=>trivial
 cases g1:(hi==164)
 ·cases g3:(hi==165)
  ·have e:pairSign hi lo=(0,false):=by rw [pairSign,g1,g3]; rfl
   simp -implicitDefEqProofs (maxSteps:=1000000) only [x_s_PairSign,go_sem,g1,g3,e]
   repeat refine ⟨sc,?_⟩
   try exact sf
  ·simp -implicitDefEqProofs (maxSteps:=1000000) only [x_s_PairSign,go_sem,g1,g3]
   repeat refine ⟨sc,?_⟩
   try exact sf
   refine C0 (c_s_l1In _ _ _) ?_
   cases g4:win lo 161 246
   ·have e:pairSign hi lo=(0,false):=by rw [pairSign,g1,g3,g4]; rfl
    exact F1 e
   ·have e:pairSign hi lo=(12449 + lo - 161,true):=by rw [pairSign,g1,g3,g4]; rfl
    exact F3 e w3 w4
 ·have g3:(hi==165)=false:=by have:=eq_of_beq g1; subst this; rfl
  simp -implicitDefEqProofs (maxSteps:=1000000) only [x_s_PairSign,go_sem,g1]
  repeat refine ⟨sc,?_⟩
  try exact sf
  refine C0 (c_s_l1In _ _ _) ?_
  cases g4:win lo 161 243
  ·have e:pairSign hi lo=(0,false):=by rw [pairSign,g1,g3,g4]; rfl
   exact F2 g3 e
  ·have e:pairSign hi lo=(12353 + lo - 161,true):=by rw [pairSign,g1,g4]; rfl
   exact F3 e w1 w2
def x_l_heldActS_5:XCode:=.seq (.q [.m 59 0,.m 60 5,.x 61 6 59 60,.f 62 61 5,.l 63 62,.m 64 1,.b 65 .neq 63 64]
 (.c 65 (.q [.i 4 (-1)]
 .ret)))
 (.reg [.m 66 1,.B 67 .add 66 1,.m 1 67])
def x_l_heldActS_4:XCode:=.seq (.seq (.draw [.m 49 0,.m 50 5,.x 51 6 49 50,.f 52 51 4,.l 53 52,.m 54 1,.c 55 146 [54],.b 56 .neq 53 55] [[],[],[0,1],[2],[3],[],[5],[4,6]])
 (.c 56 (.q [.i 4 (-1)]
 .ret)))
 (.q [.m 57 1,.B 58 .add 57 1,.m 1 58]
 x_l_heldActS_5)
def x_l_heldActS_3:XCode:=.seq (.seq (.draw [.m 39 0,.m 40 5,.x 41 6 39 40,.f 42 41 3,.l 43 42,.m 44 1,.c 45 146 [44],.b 46 .neq 43 45] [[],[],[0,1],[2],[3],[],[5],[4,6]])
 (.c 46 (.q [.i 4 (-1)]
 .ret)))
 (.q [.m 47 1,.B 48 .add 47 1,.m 1 48]
 x_l_heldActS_4)
def x_l_heldActS_2:XCode:=.seq (.q [.m 30 0,.m 31 5,.x 32 6 30 31,.f 33 32 2,.l 34 33,.m 35 1,.b 36 .neq 34 35]
 (.c 36 (.q [.i 4 (-1)]
 .ret)))
 (.q [.m 37 1,.B 38 .add 37 1,.m 1 38]
 x_l_heldActS_3)
def x_l_heldActS_1:XCode:=.seq (.q [.m 21 0,.m 22 5,.x 23 6 21 22,.f 24 23 1,.l 25 24,.m 26 1,.b 27 .neq 25 26]
 (.c 27 (.q [.i 4 (-1)]
 .ret)))
 (.q [.m 28 1,.B 29 .add 28 1,.m 1 29]
 x_l_heldActS_2)
def x_l_heldActS:FnX:=⟨69,[.tmp 4],
  .q [.i 4 0]
 (.seq (.q [.i 5 0]
 (.block 0 (.loop [0,1,5] (.seq (.q [.m 6 5,.m 7 0,.n 8 7,.b 9 .lss 6 8]
 (.cond 9 .skip (.exit 0)))
 (.seq (.block 1 (.seq (.q [.m 12 0,.m 13 5,.x 14 6 12 13,.f 15 14 0,.l 16 15,.m 17 1,.b 18 .neq 16 17]
 (.c 18 (.q [.i 4 (-1)]
 .ret)))
 (.q [.m 19 1,.B 20 .add 19 1,.m 1 20]
 x_l_heldActS_1)))
 (.reg [.m 10 5,.B 11 .add 10 1,.m 5 11]))))))
 (.norm [1] (.q [.m 68 1,.m 4 68]
 .ret)))⟩
theorem r_l_heldActS {Te:TE} (c_l_markText:C_l_markText Te):C_l_heldActS (RF Te x_l_heldActS):=by
 intro n k hl hk
 refine run0 ?_
 simp -implicitDefEqProofs (maxSteps:=1000000) (disch:=omega) only [x_l_heldActS,go_sem,IntWalk.i64_in]
 refine loop_of (σ:=Nat) (fun i=>⟨[(0,.one (.ro 6 ((marks 6 mkAct n k).map ActV.row))),(1,.one (.pv (.int .i64 (k + (6 * i:Nat))))),(5,.one (.pv (.int .i64 i)))],[],[(0,[slT false 6 ActV.row (marks 6 mkAct n k)]),(1,[iT k])]⟩) (fun i=>i≤n) (fun i=>n - i) 0 ?_ (Nat.zero_le _) ?_
 ·simp -implicitDefEqProofs (maxSteps:=1000000) only [go_sem]; simp
 ·intro i hi
  simp -implicitDefEqProofs (maxSteps:=1000000) only [go_sem,marks_length]
  refine ⟨fun h=>?_,fun h=>?_⟩
  ·have hi':i < n:=by simp only [decide_eq_true_eq] at h; omega
   try simp -implicitDefEqProofs (maxSteps:=1000000) (disch:=omega) only [go_sem,marks_get 6 mkAct k hi',IntWalk.i64_in,mkAct,bne_self_eq_false,decide_true,Bool.not_true]
   simp -implicitDefEqProofs (maxSteps:=1000000) (disch:=omega) only [x_l_heldActS_1,go_sem,marks_get 6 mkAct k hi',IntWalk.i64_in,mkAct,bne_self_eq_false,decide_true,Bool.not_true]
   simp -implicitDefEqProofs (maxSteps:=1000000) (disch:=omega) only [x_l_heldActS_2,go_sem,marks_get 6 mkAct k hi',IntWalk.i64_in,mkAct,bne_self_eq_false,decide_true,Bool.not_true]
   simp -implicitDefEqProofs (maxSteps:=1000000) (disch:=omega) only [x_l_heldActS_3,go_sem,marks_get 6 mkAct k hi',IntWalk.i64_in,mkAct,bne_self_eq_false,decide_true,Bool.not_true]
   refine .of (c_l_markText _ (by omega)) ?_
   simp -implicitDefEqProofs (maxSteps:=1000000) (disch:=omega) only [go_sem,marks_get 6 mkAct k hi',IntWalk.i64_in,mkAct,bne_self_eq_false,decide_true,Bool.not_true]
   repeat (refine ⟨by decide,?_⟩)
   simp -implicitDefEqProofs (maxSteps:=1000000) (disch:=omega) only [x_l_heldActS_4,go_sem,marks_get 6 mkAct k hi',IntWalk.i64_in,mkAct,bne_self_eq_false,decide_true,Bool.not_true]
   refine .of (c_l_markText _ (by omega)) ?_
   simp -implicitDefEqProofs (maxSteps:=1000000) (disch:=omega) only [go_sem,marks_get 6 mkAct k hi',IntWalk.i64_in,mkAct,bne_self_eq_false,decide_true,Bool.not_true]
   repeat (refine ⟨by decide,?_⟩)
   simp -implicitDefEqProofs (maxSteps:=1000000) (disch:=omega) only [x_l_heldActS_5,go_sem,marks_get 6 mkAct k hi',IntWalk.i64_in,mkAct,bne_self_eq_false,decide_true,Bool.not_true]
   refine ⟨i + 1,?_,hi',by omega⟩
   rw [show k + ((6 * (i + 1):Nat):Int)=k + (6 * i:Nat) + 1 + 1 + 1 + 1 + 1 + 1 by omega]
   rfl
  ·have:i=n:=by simp only [decide_eq_false_iff_not] at h; omega
   subst this
   simp -implicitDefEqProofs (maxSteps:=1000000) only [go_sem]
def x_s_l2Len:FnX:=⟨18,[.tmp 2],
  .q [.i 2 0]
 (.seq (.block 0 (.q [.m 4 0,.op 5 (.bin .lss (.t 4) (.k (.one (.pv (.int .u8 128))))),.m 3 5]
 (.cond 3 (.q [.i 2 1]
 .ret) (.q [.m 7 0,.op 8 (.conv (.int .i64) (.t 7)),.op 9 (.call 120 [0,0,0] [(.t 8),(.i 194),(.i 223)]),.m 6 9]
 (.cond 6 (.q [.i 2 2]
 .ret) (.q [.m 11 0,.op 12 (.conv (.int .i64) (.t 11)),.op 13 (.call 120 [0,0,0] [(.t 12),(.i 224),(.i 239)]),.m 10 13]
 (.cond 10 (.q [.i 2 3]
 .ret) (.q [.m 15 0,.op 16 (.conv (.int .i64) (.t 15)),.op 17 (.call 120 [0,0,0] [(.t 16),(.i 240),(.i 244)]),.m 14 17]
 (.c 14 (.q [.i 2 4]
 .ret))))))))))
 (.q [.i 2 0]
 .ret))⟩
theorem r_s_l2Len {Te:TE} (c_s_l1In:C_s_l1In Te):C_s_l2Len (RF Te x_s_l2Len):=by
 intro b
 have hb:=b.toNat_lt
 have w:IntKind.i64.wrap (b.toNat:Int)=(b.toNat:Int):=IntWalk.i64_in _ (by omega)
 cases q1:decide ((b.toNat:Int) < 128)
 ·simp only [decide_eq_false_iff_not] at q1
  have q1':=decide_eq_false q1
  refine X2 x_s_l2Len.eq_1 q1' w ?_
  refine C0 (c_s_l1In _ _ _) ?_
  cases q2:win (b.toNat:Int) 194 223
  ·refine G1 w ?_
   refine C0 (c_s_l1In _ _ _) ?_
   cases q3:win (b.toNat:Int) 224 239
   ·refine G1 w ?_
    refine C0 (c_s_l1In _ _ _) ?_
    cases q4:win (b.toNat:Int) 240 244
    ·have e:l2len b.toNat=0:=by
      simp only [win,Bool.and_eq_false_imp,decide_eq_true_eq,decide_eq_false_iff_not] at q2 q3 q4
      unfold l2len
      rw [if_neg (by omega),if_neg (by omega),if_neg (by omega),if_neg (by omega)]
     exact F1 e
    ·have e:l2len b.toNat=4:=by
      simp only [win,Bool.and_eq_true,decide_eq_true_eq] at q4
      unfold l2len
      rw [if_neg (by omega),if_neg (by omega),if_neg (by omega),if_pos (by omega)]
     exact F1 e
   ·have e:l2len b.toNat=3:=by
     simp only [win,Bool.and_eq_true,decide_eq_true_eq] at q3
     unfold l2len
     rw [if_neg (by omega),if_neg (by omega),if_pos (by omega)]
    exact F1 e
  ·have e:l2len b.toNat=2:=by
    simp only [win,Bool.and_eq_true,decide_eq_true_eq] at q2
    unfold l2len
    rw [if_neg (by omega),if_pos (by omega)]
   exact F1 e
 ·simp only [decide_eq_true_eq] at q1
  have q1':=decide_eq_true q1
  have e:l2len b.toNat=1:=if_pos (by omega)
  refine X2 x_s_l2Len.eq_1 q1' e ?_
  try rfl
def x_s_NodeOk:FnX:=⟨11,[.tmp 2],
  .q [.v 1 0,.F 2]
 (.q [.f 3 1 0,.L 4 9 3,.c 5 119 [4],.m 6 5,.y 6 (.f 7 1 9),.y 6 (.l 8 7),.y 6 (.op 9 (.call 120 [0,0,0] [(.t 8),(.i 1),(.i 5)])),.a 10 6 9,.m 2 10]
 .ret)⟩
theorem r_s_NodeOk {Te:TE} (c_s_StoreOk:C_s_StoreOk Te) (c_s_l1In:C_s_l1In Te):C_s_NodeOk (RF Te x_s_NodeOk):=by
 intro n h
 refine run0 ?_
 simp -implicitDefEqProofs (maxSteps:=1000000) only [x_s_NodeOk,go_sem,NodeV.ok]
 repeat refine ⟨sc,?_⟩
 try exact sf
 refine C0 (c_s_StoreOk n.S h) ?_
 cases g1:n.S.ok
 ·exact F0
 ·refine G0 ?_
  exact D0 (c_s_l1In _ _ _)
end Go.X

