/- Texts: CVe_2 CVj_4 CT_2 CUa CVz CQ CVy CVla_2 CVn_2 CVo_2. -/
import Derived.Test.YtmmjaijeeeilcaaGreatDoorB04
set_option linter.unusedVariables false
set_option linter.unusedSimpArgs false
namespace Go.X
set_option maxRecDepth 100000
set_option maxHeartbeats 8000000
def x_i_RowOk:FnX:=⟨89,[.tmp 2],
  .q [.v 1 0,.F 2]
 (.seq (.q [.f 9 1 0,.l 10 9,.c 11 98 [10],.N 12 11,.m 13 12,.z 13 (.f 14 1 5),.z 13 (.l 15 14),.z 13 (.op 16 (.call 90 [0,0,0] [(.t 15),(.i 1),(.i 3)])),.z 13 (.N 17 16),.r 18 13 17]
 (.c 18 (.q [.F 2]
 .ret)))
 (.q [.f 20 1 1,.L 21 2 20,.c 22 177 [21],.m 19 22,.e 23 19 0,.e 24 19 1,.m 3 23,.m 4 24]
 (.q [.f 26 1 3,.L 27 2 26,.c 28 177 [27],.m 25 28,.e 29 25 0,.e 30 25 1,.m 5 29,.m 6 30]
 (.q [.f 31 1 1,.L 32 2 31,.op 33 (.build [.i 0,.nils 1] []),.c 34 173 [32,33],.m 7 34]
 (.seq (.q [.f 35 1 5,.l 36 35,.B 37 .neq 36 2]
 (.c 37 (.reg [.f 38 1 1,.L 39 2 38,.c 40 261 [39],.m 41 40,.y 41 (.f 42 1 1),.y 41 (.f 43 42 0),.y 41 (.l 44 43),.y 41 (.B 45 .neq 44 0),.a 46 41 45,.m 47 46,.y 47 (.m 48 4),.y 47 (.m 49 48),.z 49 (.f 50 1 6),.z 49 (.l 51 50),.z 49 (.m 52 51),.y 52 (.f 53 1 5),.y 52 (.l 54 53),.y 52 (.B 55 .eql 54 1),.z 49 (.a 56 52 55),.y 47 (.r 57 49 56),.a 58 47 57,.m 7 58])))
 (.q [.f 59 1 3,.L 60 2 59,.op 61 (.build [.i 0,.nils 1] []),.c 62 173 [60,61],.m 8 62]
 (.seq (.q [.f 63 1 5,.l 64 63,.B 65 .neq 64 1]
 (.c 65 (.reg [.f 66 1 3,.f 67 66 0,.l 68 67,.B 69 .eql 68 0,.m 70 69,.y 70 (.m 71 6),.a 72 70 71,.m 8 72])))
 (.q [.m 73 7,.m 74 73,.y 74 (.m 75 8),.a 76 74 75,.m 77 76,.y 77 (.f 78 1 5),.y 77 (.l 79 78),.y 77 (.B 80 .neq 79 3),.y 77 (.m 81 80),.z 81 (.f 82 1 1),.z 81 (.L 83 2 82),.z 81 (.f 84 1 3),.z 81 (.L 85 2 84),.z 81 (.c 86 305 [83,85]),.y 77 (.r 87 81 86),.a 88 77 87,.m 2 88]
 .ret))))))))⟩
theorem r_i_RowOk {Te:TE} (c_i_NameOk:C_i_NameOk Te) (c_i_within:C_i_within Te) (c_i_CellText:C_i_CellText Te) (c_i_sameCell:C_i_sameCell Te) (c_i_CellOk:C_i_CellOk Te) (c_i_SameText:C_i_SameText Te):C_i_RowOk (RF Te x_i_RowOk):=by
 intro r h
 obtain ⟨hk,_⟩:=h
 refine X0 x_i_RowOk.eq_1 ?_
 refine C0 (c_i_NameOk r.Key hk) ?_
 cases g1:nameOk r.Key
 ·have e:=rowOk_name (r:=r) g1
  exact F1 e
 refine G0 ?_
 refine C0 (c_i_within _ _ _) ?_
 cases g2:win r.Has 1 3
 ·have e:=rowOk_has (r:=r) g2
  exact F1 e
 have h3:=win13 g2
 obtain ⟨key,old,new,has,aside⟩:=r
 simp only at h3 g1 hk
 clear g2
 rcases h3 with rfl | rfl | rfl
 ·skip
  have e:=rowOk_1 (o:=old) (n:=new) (a:=aside) g1
  refine G0 ?_
  refine C0 (c_i_CellText old) ?_
  refine C0 (c_i_CellText new) ?_
  refine .of (c_i_sameCell old ⟨0,[]⟩) ?_
  try simp -implicitDefEqProofs (maxSteps:=1000000) only [go_sem,CellV.no]
  repeat refine ⟨sc,?_⟩
  try exact sf
  refine C0 (c_i_CellOk old) ?_
  have fin0:∀ z,z=false→True:=fun _ _=>trivial
  cases o1:old.ok
  ·refine G1 o1 ?_
   refine .of (c_i_sameCell new ⟨0,[]⟩) ?_
   try simp -implicitDefEqProofs (maxSteps:=1000000) only [go_sem,CellV.no,e,o1]
   repeat refine ⟨sc,?_⟩
   try exact sf
  ·cases o2:(old.Tag != 0)
   ·refine G2 o1 o2 ?_
    refine .of (c_i_sameCell new ⟨0,[]⟩) ?_
    try simp -implicitDefEqProofs (maxSteps:=1000000) only [go_sem,CellV.no,e,o1,o2]
    repeat refine ⟨sc,?_⟩
    try exact sf
   ·cases o3:old.text.2
    ·cases aside
     ·refine G3 o1 o2 o3 ?_
      refine .of (c_i_sameCell new ⟨0,[]⟩) ?_
      try simp -implicitDefEqProofs (maxSteps:=1000000) only [go_sem,CellV.no,e,o1,o2,o3]
      repeat refine ⟨sc,?_⟩
      try exact sf
     ·try simp -implicitDefEqProofs (maxSteps:=1000000) only [go_sem,o1,o2,o3,CellV.no]
      repeat refine ⟨sc,?_⟩
      try exact sf
      refine .of (c_i_sameCell new ⟨0,[]⟩) ?_
      try simp -implicitDefEqProofs (maxSteps:=1000000) only [go_sem,CellV.no]
      repeat refine ⟨sc,?_⟩
      try exact sf
      cases n1:((new.Tag==0)&&decide (new.B=[]))
      ·try simp -implicitDefEqProofs (maxSteps:=1000000) only [go_sem,n1,CellV.no,e,o1,o2,o3]
       repeat refine ⟨sc,?_⟩
       try exact sf
      ·try simp -implicitDefEqProofs (maxSteps:=1000000) only [go_sem,n1,CellV.no,e,o1,o2,o3]
       repeat refine ⟨sc,?_⟩
       try exact sf
    ·try simp -implicitDefEqProofs (maxSteps:=1000000) only [go_sem,o1,o2,o3,CellV.no]
     repeat refine ⟨sc,?_⟩
     try exact sf
     refine .of (c_i_sameCell new ⟨0,[]⟩) ?_
     try simp -implicitDefEqProofs (maxSteps:=1000000) only [go_sem,CellV.no]
     repeat refine ⟨sc,?_⟩
     try exact sf
     cases n1:((new.Tag==0)&&decide (new.B=[]))
     ·try simp -implicitDefEqProofs (maxSteps:=1000000) only [go_sem,n1,CellV.no,e,o1,o2,o3]
      repeat refine ⟨sc,?_⟩
      try exact sf
     ·try simp -implicitDefEqProofs (maxSteps:=1000000) only [go_sem,n1,CellV.no,e,o1,o2,o3]
      repeat refine ⟨sc,?_⟩
      try exact sf
 ·skip
  have e:=rowOk_2 (o:=old) (n:=new) (a:=aside) g1
  refine G0 ?_
  refine C0 (c_i_CellText old) ?_
  refine C0 (c_i_CellText new) ?_
  refine .of (c_i_sameCell old ⟨0,[]⟩) ?_
  try simp -implicitDefEqProofs (maxSteps:=1000000) only [go_sem,CellV.no]
  repeat refine ⟨sc,?_⟩
  try exact sf
  refine .of (c_i_sameCell new ⟨0,[]⟩) ?_
  try simp -implicitDefEqProofs (maxSteps:=1000000) only [go_sem,CellV.no]
  repeat refine ⟨sc,?_⟩
  try exact sf
  cases o1:((old.Tag==0)&&decide (old.B=[]))
  ·cases n1:(new.Tag==0)
   ·try simp -implicitDefEqProofs (maxSteps:=1000000) only [go_sem,o1,n1,e,CellV.no]
    repeat refine ⟨sc,?_⟩
    try exact sf
   ·try simp -implicitDefEqProofs (maxSteps:=1000000) only [go_sem,o1,n1,e,CellV.no]
    repeat refine ⟨sc,?_⟩
    try exact sf
  ·cases n1:(new.Tag==0)
   ·try simp -implicitDefEqProofs (maxSteps:=1000000) only [go_sem,o1,n1,e,CellV.no]
    repeat refine ⟨sc,?_⟩
    try exact sf
   ·cases n2:new.text.2
    ·try simp -implicitDefEqProofs (maxSteps:=1000000) only [go_sem,o1,n1,n2,e,CellV.no]
     repeat refine ⟨sc,?_⟩
     try exact sf
    ·try simp -implicitDefEqProofs (maxSteps:=1000000) only [go_sem,o1,n1,n2,e,CellV.no]
     repeat refine ⟨sc,?_⟩
     try exact sf
 ·skip
  have e:=rowOk_3 (o:=old) (n:=new) (a:=aside) g1
  refine G0 ?_
  refine C0 (c_i_CellText old) ?_
  refine C0 (c_i_CellText new) ?_
  refine .of (c_i_sameCell old ⟨0,[]⟩) ?_
  try simp -implicitDefEqProofs (maxSteps:=1000000) only [go_sem,CellV.no]
  repeat refine ⟨sc,?_⟩
  try exact sf
  refine C0 (c_i_CellOk old) ?_
  cases o1:old.ok
  ·refine G1 o1 ?_
   refine .of (c_i_sameCell new ⟨0,[]⟩) ?_
   try simp -implicitDefEqProofs (maxSteps:=1000000) only [go_sem,CellV.no]
   repeat refine ⟨sc,?_⟩
   try exact sf
   cases n1:(new.Tag==0)
   ·try simp -implicitDefEqProofs (maxSteps:=1000000) only [go_sem,n1,CellV.no,e,o1]
    repeat refine ⟨sc,?_⟩
    try exact sf
   ·try simp -implicitDefEqProofs (maxSteps:=1000000) only [go_sem,n1,CellV.no,e,o1]
    repeat refine ⟨sc,?_⟩
    try exact sf
  ·cases o2:(old.Tag != 0)
   ·refine G2 o1 o2 ?_
    refine .of (c_i_sameCell new ⟨0,[]⟩) ?_
    try simp -implicitDefEqProofs (maxSteps:=1000000) only [go_sem,CellV.no]
    repeat refine ⟨sc,?_⟩
    try exact sf
    cases n1:(new.Tag==0)
    ·try simp -implicitDefEqProofs (maxSteps:=1000000) only [go_sem,n1,CellV.no,e,o1,o2]
     repeat refine ⟨sc,?_⟩
     try exact sf
    ·try simp -implicitDefEqProofs (maxSteps:=1000000) only [go_sem,n1,CellV.no,e,o1,o2]
     repeat refine ⟨sc,?_⟩
     try exact sf
   ·cases o3:old.text.2
    ·cases aside
     ·try simp -implicitDefEqProofs (maxSteps:=1000000) only [go_sem,o1,o2,o3,CellV.no]
      repeat refine ⟨sc,?_⟩
      try exact sf
      refine .of (c_i_sameCell new ⟨0,[]⟩) ?_
      try simp -implicitDefEqProofs (maxSteps:=1000000) only [go_sem,CellV.no]
      repeat refine ⟨sc,?_⟩
      try exact sf
      cases n1:(new.Tag==0)
      ·try simp -implicitDefEqProofs (maxSteps:=1000000) only [go_sem,n1,CellV.no,e,o1,o2,o3]
       repeat refine ⟨sc,?_⟩
       try exact sf
      ·try simp -implicitDefEqProofs (maxSteps:=1000000) only [go_sem,n1,CellV.no,e,o1,o2,o3]
       repeat refine ⟨sc,?_⟩
       try exact sf
     ·try simp -implicitDefEqProofs (maxSteps:=1000000) only [go_sem,o1,o2,o3,CellV.no]
      repeat refine ⟨sc,?_⟩
      try exact sf
      refine .of (c_i_sameCell new ⟨0,[]⟩) ?_
      try simp -implicitDefEqProofs (maxSteps:=1000000) only [go_sem,CellV.no]
      repeat refine ⟨sc,?_⟩
      try exact sf
      cases n1:(new.Tag==0)
      ·try simp -implicitDefEqProofs (maxSteps:=1000000) only [go_sem,n1,CellV.no,e,o1,o2,o3]
       repeat refine ⟨sc,?_⟩
       try exact sf
      ·try simp -implicitDefEqProofs (maxSteps:=1000000) only [go_sem,n1,CellV.no,e,o1,o2,o3]
       repeat refine ⟨sc,?_⟩
       try exact sf
    ·try simp -implicitDefEqProofs (maxSteps:=1000000) only [go_sem,o1,o2,o3,CellV.no]
     repeat refine ⟨sc,?_⟩
     try exact sf
     refine .of (c_i_sameCell new ⟨0,[]⟩) ?_
     try simp -implicitDefEqProofs (maxSteps:=1000000) only [go_sem,CellV.no]
     repeat refine ⟨sc,?_⟩
     try exact sf
     cases n1:(new.Tag==0)
     ·try simp -implicitDefEqProofs (maxSteps:=1000000) only [go_sem,n1,CellV.no,e,o1,o2,o3]
      repeat refine ⟨sc,?_⟩
      try exact sf
     ·cases n2:new.text.2
      ·try simp -implicitDefEqProofs (maxSteps:=1000000) only [go_sem,n1,n2,CellV.no,e,o1,o2,o3]
       repeat refine ⟨sc,?_⟩
       try exact sf
      ·try simp -implicitDefEqProofs (maxSteps:=1000000) only [go_sem,n1,n2,CellV.no]
       repeat refine ⟨sc,?_⟩
       try exact sf
       refine .of (c_i_SameText old new) ?_
       try simp -implicitDefEqProofs (maxSteps:=1000000) only [go_sem,e,o1,o2,o3,n1,n2]
       repeat refine ⟨sc,?_⟩
       try exact sf
def x_s_PutRec:FnX:=⟨70,[.tmp 6],
  .q [.v 5 2,.op 6 (.mv (.k (.one (.nils 1))))]
 (.seq (.q [.L 8 13 5,.c 9 276 [8],.N 10 9,.m 11 10,.z 11 (.m 12 0),.z 11 (.c 13 161 [12]),.z 11 (.N 14 13),.r 15 11 14,.m 16 15,.z 16 (.m 17 1),.z 16 (.c 18 161 [17]),.z 16 (.N 19 18),.r 20 16 19]
 (.c 20 (.q [.op 21 (.bslice 1 []),.m 6 21]
 .ret)))
 (.seq (.draw [.op 22 (.bslice 1 []),.m 23 0,.c 24 282 [22,23],.m 25 1,.c 26 282 [24,25],.f 27 5 0,.l 28 27,.op 29 (.conv (.int .u8) (.t 28)),.op 30 (.bslice 1 [(.t 29)]),.op 31 (.app 1 1 (.t 26) (.t 30)),.m 7 31] [[],[],[0,1],[],[2,3,2],[],[5],[6],[7],[4,8,4],[9,9,0,1,2,3,4,5,6,7,8,9]])
 (.seq (.q [.f 32 5 0,.l 33 32]
 (.block 0 (.q [.B 35 .eql 33 1,.m 34 35]
 (.cond 34 (.reg [.m 36 7,.f 37 5 1,.L 38 7 37,.c 39 283 [36,38],.m 7 39]) (.q [.B 41 .eql 33 2,.m 40 41]
 (.cond 40 (.reg [.m 42 7,.f 43 5 8,.l 44 43,.c 45 284 [42,44],.m 7 45]) (.q [.B 47 .eql 33 3,.m 46 47]
 (.c 46 (.reg [.m 48 7,.f 49 5 9,.l 50 49,.op 51 (.conv (.int .u8) (.t 50)),.op 52 (.bslice 1 [(.t 51)]),.op 53 (.app 1 1 (.t 48) (.t 52)),.m 7 53])))))))))
 (.seq (.draw [.m 54 7,.f 55 5 10,.l 56 55,.op 57 (.conv (.int .u8) (.t 56)),.f 58 5 12,.l 59 58,.op 60 (.conv (.int .u8) (.t 59)),.op 61 (.bslice 1 [(.t 57),(.t 60)]),.op 62 (.app 1 1 (.t 54) (.t 61)),.f 63 5 11,.l 64 63,.c 65 282 [62,64],.m 7 65] [[],[],[1],[2],[],[4],[5],[3,6],[0,7],[],[9],[8,10,8],[11,11,0,1,2,3,4,5,6,7,8,9,10,11]])
 (.q [.m 66 7,.m 67 7,.c 68 285 [67],.c 69 282 [66,68],.m 6 69]
 .ret)))))⟩
theorem r_s_PutRec {Te:TE} (c_s_RecOk:C_s_RecOk Te) (c_s_l1Word:C_s_l1Word Te) (c_s_PutW:C_s_PutW Te) (c_s_PutRow:C_s_PutRow Te) (c_s_PutText:C_s_PutText Te) (c_s_Sum:C_s_Sum Te):C_s_PutRec (RF Te x_s_PutRec):=by
 intro gen place r h
 have h1:=h.1
 have h2:=h.2
 refine X0 x_s_PutRec.eq_1 ?_
 refine C0 (c_s_RecOk r h) ?_
 cases g1:r.ok
 ·have e:=recNo1 (gen:=gen) (place:=place) g1
  exact F1 e
 refine G0 ?_
 refine C0 (c_s_l1Word _) ?_
 cases g2:win gen 0 65535
 ·have e:=recNo2 (place:=place) (r:=r) g2
  exact F1 e
 refine G0 ?_
 refine C0 (c_s_l1Word _) ?_
 cases g3:win place 0 65535
 ·have e:=recNo3 (gen:=gen) (r:=r) g3
  exact F1 e
 refine G0 ?_
 have ey:=recYes g1 g2 g3
 have lw:(putW (putW [] gen) place).length=4:=by rw [putW_len,putW_len]; rfl
 have t1:=c_s_PutW [] gen (by show 0≤2 ^ 30; decide)
 refine C0 (t1) ?_
 refine .of (c_s_PutW (putW [] gen) place (by rw [putW_len]; show 0 + 2≤2 ^ 30; decide)) ?_
 try simp -implicitDefEqProofs (maxSteps:=1000000) only [go_sem,mkU_wrap,app1B,take1B]
 repeat refine ⟨sc,?_⟩
 try exact sf
 have e1:putW (putW [] gen) place++[mkU r.Kind]=recHead gen place r:=rfl
 have e2:(putW (putW [] gen) place).length + 1=(recHead gen place r).length:=by rw [recHead,List.length_append]; rfl
 simp only [e1,e2]
 have l0:=recHead_len gen place r
 generalize eH:recHead gen place r=H at l0 ⊢
 by_cases q1:r.Kind=1
 ·have k1:(r.Kind==1)=true:=by rw [q1]; rfl
  refine G1 k1 ?_
  refine C0 (c_s_PutRow H r.R (by omega) h1) ?_
  have e3:putRow H r.R=recKind H r:=(if_pos q1).symm
  have l3:=recKind_len H r
  try simp -implicitDefEqProofs (maxSteps:=1000000) only [go_sem,e3,mkU_wrap,app2B,take2B]
  repeat refine ⟨sc,?_⟩
  try exact sf
  have tt:=c_s_PutW (recKind H r++[mkU r.Who,mkU r.Code]) r.Seq (by rw [List.length_append]; simp only [List.length_cons,List.length_nil]; omega)
  have e4:putW (recKind H r++[mkU r.Who,mkU r.Code]) r.Seq=recBody gen place r:=by rw [recBody,eH]
  rw [e4] at tt
  refine C0 (tt) ?_
  have l4:=recBody_len gen place r
  refine C0 (c_s_Sum (recBody gen place r) (by omega)) ?_
  refine .of (c_s_PutW (recBody gen place r) _ (by omega)) ?_
  try simp -implicitDefEqProofs (maxSteps:=1000000) only [go_sem,ey]
  repeat refine ⟨sc,?_⟩
  try exact sf
 by_cases q2:r.Kind=2
 ·have k1:(r.Kind==1)=false:=by rw [q2]; rfl
  have k2:(r.Kind==2)=true:=by rw [q2]; rfl
  refine G2 k1 k2 ?_
  refine C0 (c_s_PutText H r.Key (by omega) h2) ?_
  have e3:putText H r.Key=recKind H r:=by rw [recKind,if_neg q1,if_pos q2]
  have l3:=recKind_len H r
  try simp -implicitDefEqProofs (maxSteps:=1000000) only [go_sem,e3,mkU_wrap,app2B,take2B]
  repeat refine ⟨sc,?_⟩
  try exact sf
  have tt:=c_s_PutW (recKind H r++[mkU r.Who,mkU r.Code]) r.Seq (by rw [List.length_append]; simp only [List.length_cons,List.length_nil]; omega)
  have e4:putW (recKind H r++[mkU r.Who,mkU r.Code]) r.Seq=recBody gen place r:=by rw [recBody,eH]
  rw [e4] at tt
  refine C0 (tt) ?_
  have l4:=recBody_len gen place r
  refine C0 (c_s_Sum (recBody gen place r) (by omega)) ?_
  refine .of (c_s_PutW (recBody gen place r) _ (by omega)) ?_
  try simp -implicitDefEqProofs (maxSteps:=1000000) only [go_sem,ey]
  repeat refine ⟨sc,?_⟩
  try exact sf
 by_cases q3:r.Kind=3
 ·have k1:(r.Kind==1)=false:=by rw [q3]; rfl
  have k2:(r.Kind==2)=false:=by rw [q3]; rfl
  have k3:(r.Kind==3)=true:=by rw [q3]; rfl
  have e3:H++[mkU r.N]=recKind H r:=by rw [recKind,if_neg q1,if_neg q2,if_pos q3]
  have e5:H.length + 1=(recKind H r).length:=by rw [← e3,List.length_append]; rfl
  have l3:=recKind_len H r
  try simp -implicitDefEqProofs (maxSteps:=1000000) only [go_sem,k1,k2,k3,mkU_wrap,app1B,e3,e5,take_rows]
  repeat refine ⟨sc,?_⟩
  try exact sf
  try simp -implicitDefEqProofs (maxSteps:=1000000) only [go_sem,e3,mkU_wrap,app2B,take2B]
  repeat refine ⟨sc,?_⟩
  try exact sf
  have tt:=c_s_PutW (recKind H r++[mkU r.Who,mkU r.Code]) r.Seq (by rw [List.length_append]; simp only [List.length_cons,List.length_nil]; omega)
  have e4:putW (recKind H r++[mkU r.Who,mkU r.Code]) r.Seq=recBody gen place r:=by rw [recBody,eH]
  rw [e4] at tt
  refine C0 (tt) ?_
  have l4:=recBody_len gen place r
  refine C0 (c_s_Sum (recBody gen place r) (by omega)) ?_
  refine .of (c_s_PutW (recBody gen place r) _ (by omega)) ?_
  try simp -implicitDefEqProofs (maxSteps:=1000000) only [go_sem,ey]
  repeat refine ⟨sc,?_⟩
  try exact sf
 obtain ⟨k1,k2,k3⟩:=other3 q1 q2 q3
 refine G3 k1 k2 k3 ?_
 have e3:recKind H r=H:=by rw [recKind,if_neg q1,if_neg q2,if_neg q3]
 try simp -implicitDefEqProofs (maxSteps:=1000000) only [go_sem,mkU_wrap,app2B,take2B]
 repeat refine ⟨sc,?_⟩
 try exact sf
 have tt:=c_s_PutW (H++[mkU r.Who,mkU r.Code]) r.Seq (by rw [List.length_append]; simp only [List.length_cons,List.length_nil]; omega)
 have e4:putW (H++[mkU r.Who,mkU r.Code]) r.Seq=recBody gen place r:=by rw [recBody,eH,e3]
 rw [e4] at tt
 refine C0 (tt) ?_
 have l4:=recBody_len gen place r
 refine C0 (c_s_Sum (recBody gen place r) (by omega)) ?_
 refine .of (c_s_PutW (recBody gen place r) _ (by omega)) ?_
 try simp -implicitDefEqProofs (maxSteps:=1000000) only [go_sem,ey]
 repeat refine ⟨sc,?_⟩
 try exact sf
def x_i_HeadOf:FnX:=⟨22,[.tmp 4],
  .q [.op 4 (.mv (.k (.one (.nils 1))))]
 (.seq (.q [.m 6 0,.op 7 (.call 90 [0,0,0] [(.t 6),(.i 1),(.i 60000)]),.N 8 7,.m 9 8,.z 9 (.m 10 1),.z 9 (.op 11 (.call 90 [0,0,0] [(.t 10),(.i 0),(.i 30)])),.z 9 (.N 12 11),.r 13 9 12]
 (.c 13 (.q [.op 4 (.mv (.k (.one (.nils 1))))]
 .ret)))
 (.q [.m 14 0,.op 15 (.call 312 [0,0] [(.k (.one (.nils 1))),(.t 14)]),.m 16 1,.c 17 312 [15,16],.m 5 17]
 (.q [.m 18 5,.m 19 5,.c 20 315 [19],.c 21 312 [18,20],.m 4 21]
 .ret)))⟩
theorem r_i_HeadOf {Te:TE} (c_i_within:C_i_within Te) (c_i_PutW:C_i_PutW Te) (c_i_Sum:C_i_Sum Te):C_i_HeadOf (RF Te x_i_HeadOf):=by
 intro gen n
 refine X0 x_i_HeadOf.eq_1 ?_
 refine C0 (c_i_within _ _ _) ?_
 cases g1:win gen 1 60000
 ·have e:headOf gen n=[]:=by rw [headOf,headGood,g1]; rfl
  exact F1 e
 refine G0 ?_
 refine C0 (c_i_within _ _ _) ?_
 cases g2:win n 0 30
 ·have e:headOf gen n=[]:=by rw [headOf,headGood,g1,g2]; rfl
  exact F1 e
 refine G0 ?_
 have e:headOf gen n=putW (putW (putW [] gen) n) (sum (putW (putW [] gen) n):Nat):=by rw [headOf,headGood,g1,g2]; rfl
 have l1:(putW (putW [] gen) n).length=4:=by rw [putW_len,putW_len]; rfl
 have t1:=c_i_PutW [] gen (by show 0≤2 ^ 30; decide)
 refine C0 (t1) ?_
 refine C0 (c_i_PutW (putW [] gen) n (by rw [putW_len]; show 0 + 2≤2 ^ 30; decide)) ?_
 refine C0 (c_i_Sum (putW (putW [] gen) n) (by omega)) ?_
 refine .of (c_i_PutW (putW (putW [] gen) n) _ (by omega)) ?_
 try simp -implicitDefEqProofs (maxSteps:=1000000) only [go_sem,e]
 repeat refine ⟨sc,?_⟩
 try exact sf
def x_u_appendRuneNonASCII:FnX:=⟨78,[.tmp 4],
  .q [.op 4 (.mv (.k (.one (.nils 1))))]
 (.q [.m 6 1,.op 7 (.conv (.int .u32) (.t 6)),.m 5 7]
 (.block 0 (.q [.m 12 5,.op 13 (.bin .leq (.t 12) (.k (.one (.pv (.int .u32 2047))))),.m 11 13]
 (.cond 11 (.q [.m 14 0,.m 15 1,.op 16 (.bin .shr (.t 15) (.k (.one (.pv (.int .u64 6))))),.op 17 (.conv (.int .u8) (.t 16)),.op 18 (.bin .or (.k (.one (.pv (.int .u8 192)))) (.t 17)),.m 19 1,.op 20 (.conv (.int .u8) (.t 19)),.op 21 (.bin .and (.t 20) (.k (.one (.pv (.int .u8 63))))),.op 22 (.bin .or (.k (.one (.pv (.int .u8 128)))) (.t 21)),.op 23 (.bslice 1 [(.t 18),(.t 22)]),.op 24 (.app 1 1 (.t 14) (.t 23)),.m 4 24]
 .ret) (.seq (.q [.m 26 5,.op 27 (.bin .lss (.t 26) (.k (.one (.pv (.int .u32 55296))))),.m 25 27]
 (.cond 25 .skip (.reg [.m 28 5,.op 29 (.bin .lss (.k (.one (.pv (.int .u32 57343)))) (.t 28)),.m 30 29,.y 30 (.m 31 5),.y 30 (.op 32 (.bin .leq (.t 31) (.k (.one (.pv (.int .u32 65535)))))),.a 33 30 32,.m 25 33])))
 (.cond 25 (.q [.m 34 0,.m 35 1,.op 36 (.bin .shr (.t 35) (.k (.one (.pv (.int .u64 12))))),.op 37 (.conv (.int .u8) (.t 36)),.op 38 (.bin .or (.k (.one (.pv (.int .u8 224)))) (.t 37)),.m 39 1,.op 40 (.bin .shr (.t 39) (.k (.one (.pv (.int .u64 6))))),.op 41 (.conv (.int .u8) (.t 40)),.op 42 (.bin .and (.t 41) (.k (.one (.pv (.int .u8 63))))),.op 43 (.bin .or (.k (.one (.pv (.int .u8 128)))) (.t 42)),.m 44 1,.op 45 (.conv (.int .u8) (.t 44)),.op 46 (.bin .and (.t 45) (.k (.one (.pv (.int .u8 63))))),.op 47 (.bin .or (.k (.one (.pv (.int .u8 128)))) (.t 46)),.op 48 (.bslice 1 [(.t 38),(.t 43),(.t 47)]),.op 49 (.app 1 1 (.t 34) (.t 48)),.m 4 49]
 .ret) (.q [.m 51 5,.op 52 (.bin .gtr (.t 51) (.k (.one (.pv (.int .u32 65535))))),.m 53 52,.y 53 (.m 54 5),.y 53 (.op 55 (.bin .leq (.t 54) (.k (.one (.pv (.int .u32 1114111)))))),.a 56 53 55,.m 50 56]
 (.cond 50 (.q [.m 57 0,.m 58 1,.op 59 (.bin .shr (.t 58) (.k (.one (.pv (.int .u64 18))))),.op 60 (.conv (.int .u8) (.t 59)),.op 61 (.bin .or (.k (.one (.pv (.int .u8 240)))) (.t 60)),.m 62 1,.op 63 (.bin .shr (.t 62) (.k (.one (.pv (.int .u64 12))))),.op 64 (.conv (.int .u8) (.t 63)),.op 65 (.bin .and (.t 64) (.k (.one (.pv (.int .u8 63))))),.op 66 (.bin .or (.k (.one (.pv (.int .u8 128)))) (.t 65)),.m 67 1,.op 68 (.bin .shr (.t 67) (.k (.one (.pv (.int .u64 6))))),.op 69 (.conv (.int .u8) (.t 68)),.op 70 (.bin .and (.t 69) (.k (.one (.pv (.int .u8 63))))),.op 71 (.bin .or (.k (.one (.pv (.int .u8 128)))) (.t 70)),.m 72 1,.op 73 (.conv (.int .u8) (.t 72)),.op 74 (.bin .and (.t 73) (.k (.one (.pv (.int .u8 63))))),.op 75 (.bin .or (.k (.one (.pv (.int .u8 128)))) (.t 74)),.op 76 (.bslice 1 [(.t 61),(.t 66),(.t 71),(.t 75)]),.op 77 (.app 1 1 (.t 57) (.t 76)),.m 4 77]
 .ret) (.q [.m 8 0,.op 9 (.bslice 1 [(.k (.one (.pv (.int .u8 239)))),(.k (.one (.pv (.int .u8 191)))),(.k (.one (.pv (.int .u8 189))))]),.op 10 (.app 1 1 (.t 8) (.t 9)),.m 4 10]
 .ret)))))))))⟩
theorem r_u_appendRuneNonASCII {Te:TE}:C_u_appendRuneNonASCII (RF Te x_u_appendRuneNonASCII):=by
 intro b m hb hm
 refine run0 ?_
 obtain ⟨hq,h1,h2⟩:=hm
 replace hq:¬ m≤127:=by omega
 have w32:IntKind.u32.wrap (m:Int)=(m:Int):=by rw [IntKind.wrap_u32]; omega
 have d6:(m:Int).fdiv (2 ^ 6)=((m / 64:Nat):Int):=fdivN m 64
 have d12:(m:Int).fdiv (2 ^ 12)=((m / 4096:Nat):Int):=fdivN m 4096
 have d18:(m:Int).fdiv (2 ^ 18)=((m / 262144:Nat):Int):=fdivN m 262144
 have n6:Nat.min 6 32=6:=rfl
 have n12:Nat.min 12 32=12:=rfl
 have n18:Nat.min 18 32=18:=rfl
 have a0:andK .u8 (((mkU (m:Int)).toNat:Nat):Int) 63=((m % 64:Nat):Int):=by rw [mkU_toNat,and8 _ (by omega)]; omega
 have a6:andK .u8 (((mkU ((m / 64:Nat):Int)).toNat:Nat):Int) 63=((m / 64 % 64:Nat):Int):=by rw [mkU_toNat,and8 _ (by omega)]; omega
 have a12:andK .u8 (((mkU ((m / 4096:Nat):Int)).toNat:Nat):Int) 63=((m / 4096 % 64:Nat):Int):=by rw [mkU_toNat,and8 _ (by omega)]; omega
 have o0:orK .u8 128 ((m % 64:Nat):Int)=((UInt8.ofNat (128 + m % 64)).toNat:Int):=or8 128 6 2 rfl (by omega) (by omega)
 have o6:orK .u8 128 ((m / 64 % 64:Nat):Int)=((UInt8.ofNat (128 + m / 64 % 64)).toNat:Int):=or8 128 6 2 rfl (by omega) (by omega)
 have o12:orK .u8 128 ((m / 4096 % 64:Nat):Int)=((UInt8.ofNat (128 + m / 4096 % 64)).toNat:Int):=or8 128 6 2 rfl (by omega) (by omega)
 cases q2:decide ((m:Int)≤2047)
 ·have hq2:¬ m≤2047:=by simp only [decide_eq_false_iff_not] at q2; omega
  cases q3:decide ((m:Int)≤65535)
  ·have hq3:¬ m≤65535:=by simp only [decide_eq_false_iff_not] at q3; omega
   have t:orK .u8 240 (((mkU ((m / 262144:Nat):Int)).toNat:Nat):Int)=((UInt8.ofNat (240 + m / 262144)).toNat:Int):=by
    rw [mkU_toNat,Nat.mod_eq_of_lt (by omega)]; exact or8 240 3 30 rfl (by omega) (by omega)
   have ee:List.take (b.length + 4) (List.map uR b++[[uT (UInt8.ofNat (240 + m / 262144))],[uT (UInt8.ofNat (128 + m / 4096 % 64))],[uT (UInt8.ofNat (128 + m / 64 % 64))],[uT (UInt8.ofNat (128 + m % 64))]])=List.map uR (b++enc8 m):=by
    rw [List.take_of_length_le (by simp)]
    simp only [enc8,if_neg hq,if_neg hq2,if_neg hq3,List.map_append,List.map_cons,List.map_nil]
   have c1:decide ((m:Int) < 55296)=false:=decide_eq_false (by omega)
   have c2:decide ((57343:Int) < (m:Int))=true:=decide_eq_true (by omega)
   have c3:decide ((m:Int) > 65535)=true:=decide_eq_true (by omega)
   have c4:decide ((m:Int)≤1114111)=true:=decide_eq_true (by omega)
   simp -implicitDefEqProofs (maxSteps:=1000000) only [x_u_appendRuneNonASCII,go_sem,w32,q2,q3,c1,c2,c3,c4,n6,n12,n18,d6,d12,d18,mkU_wrap,a0,a6,a12,o0,o6,o12,t,ee]
   repeat refine ⟨sc,?_⟩
   try exact sf
  ·have hq3:m≤65535:=by simp only [decide_eq_true_eq] at q3; omega
   have t:orK .u8 224 (((mkU ((m / 4096:Nat):Int)).toNat:Nat):Int)=((UInt8.ofNat (224 + m / 4096)).toNat:Int):=by
    rw [mkU_toNat,Nat.mod_eq_of_lt (by omega)]; exact or8 224 4 14 rfl (by omega) (by omega)
   have ee:List.take (b.length + 3) (List.map uR b++[[uT (UInt8.ofNat (224 + m / 4096))],[uT (UInt8.ofNat (128 + m / 64 % 64))],[uT (UInt8.ofNat (128 + m % 64))]])=List.map uR (b++enc8 m):=by
    rw [List.take_of_length_le (by simp)]
    simp only [enc8,if_neg hq,if_neg hq2,if_pos hq3,List.map_append,List.map_cons,List.map_nil]
   cases c1:decide ((m:Int) < 55296)
   ·have c2:decide ((57343:Int) < (m:Int))=true:=decide_eq_true (by simp only [decide_eq_false_iff_not] at c1; omega)
    simp -implicitDefEqProofs (maxSteps:=1000000) only [x_u_appendRuneNonASCII,go_sem,w32,q2,q3,c1,c2,n6,n12,d6,d12,mkU_wrap,a0,a6,o0,o6,t,ee]
    repeat refine ⟨sc,?_⟩
    try exact sf
   ·simp -implicitDefEqProofs (maxSteps:=1000000) only [x_u_appendRuneNonASCII,go_sem,w32,q2,q3,c1,n6,n12,d6,d12,mkU_wrap,a0,a6,o0,o6,t,ee]
    repeat refine ⟨sc,?_⟩
    try exact sf
 ·have hq2:m≤2047:=by simp only [decide_eq_true_eq] at q2; omega
  have t:orK .u8 192 (((mkU ((m / 64:Nat):Int)).toNat:Nat):Int)=((UInt8.ofNat (192 + m / 64)).toNat:Int):=by
   rw [mkU_toNat,Nat.mod_eq_of_lt (by omega)]; exact or8 192 6 3 rfl (by omega) (by omega)
  have ee:List.take (b.length + 2) (List.map uR b++[[uT (UInt8.ofNat (192 + m / 64))],[uT (UInt8.ofNat (128 + m % 64))]])=List.map uR (b++enc8 m):=by
   rw [List.take_of_length_le (by simp)]
   simp only [enc8,if_neg hq,if_pos hq2,List.map_append,List.map_cons,List.map_nil]
  simp -implicitDefEqProofs (maxSteps:=1000000) only [x_u_appendRuneNonASCII,go_sem,w32,q2,n6,d6,mkU_wrap,a0,o0,t,ee]
  repeat refine ⟨sc,?_⟩
  try exact sf
def x_s_l1Name:FnX:=⟨6,[.tmp 2],
  .q [.op 2 (.mv (.k (.one (.pv (.string ⟨#[]⟩)))))]
 (.q [.m 3 0,.op 4 (.bslice 1 [(.k (.one (.pv (.string ⟨#[97]⟩)))),(.k (.one (.pv (.string ⟨#[98]⟩)))),(.k (.one (.pv (.string ⟨#[99]⟩)))),(.k (.one (.pv (.string ⟨#[100]⟩)))),(.k (.one (.pv (.string ⟨#[101,53]⟩))))]),.op 5 (.call 114 [5,1] [(.t 3),(.t 4)]),.m 2 5]
 .ret)⟩
theorem r_s_l1Name {Te:TE} (c_s_l1Str:C_s_l1Str Te):∀ (c:CurV) (hc:c.ok),∃ r0,(∃ (r:ByteArray) (d:CurV),(r.size≤6∧d.ok)∧r0=(⟨[.one (sT r)],[d.enc]⟩:Res))∧RunFn Te x_s_l1Name [.ptr c.enc] r0:=by
 intro c hc
 refine some_of (Nat.le_of_ble_eq_true rfl) (by rfl) ?_
 simp -implicitDefEqProofs (maxSteps:=1000000) only [x_s_l1Name,go_sem]
 repeat refine ⟨sc,?_⟩
 try exact sf
 obtain ⟨r,d,⟨hr,hd⟩,ht⟩:=c_s_l1Str c [⟨#[97]⟩,⟨#[98]⟩,⟨#[99]⟩,⟨#[100]⟩,⟨#[101,53]⟩] hc (by decide)
 refine C0 (ht) ?_
 exact ⟨r,d,⟨str_small 6 hr (by decide),hd⟩,rfl⟩
def x_s_l1Text:FnX:=⟨6,[.tmp 2],
  .q [.op 2 (.mv (.k (.one (.pv (.string ⟨#[]⟩)))))]
 (.q [.m 3 0,.op 4 (.bslice 1 [(.k (.one (.pv (.string ⟨#[]⟩)))),(.k (.one (.pv (.string ⟨#[97]⟩)))),(.k (.one (.pv (.string ⟨#[98,49]⟩)))),(.k (.one (.pv (.string ⟨#[115,105,120,108,101,116]⟩)))),(.k (.one (.pv (.string ⟨#[115,101,118,101,110,108,101]⟩)))),(.k (.one (.pv (.string ⟨#[65]⟩)))),(.k (.one (.pv (.string ⟨#[97,32,98]⟩)))),(.k (.one (.pv (.string ⟨#[0]⟩)))),(.k (.one (.pv (.string ⟨#[104,101,108,108,111]⟩))))]),.op 5 (.call 114 [5,1] [(.t 3),(.t 4)]),.m 2 5]
 .ret)⟩
theorem r_s_l1Text {Te:TE} (c_s_l1Str:C_s_l1Str Te):∀ (c:CurV) (hc:c.ok),∃ r0,(∃ (r:ByteArray) (d:CurV),(r.size≤7∧d.ok)∧r0=(⟨[.one (sT r)],[d.enc]⟩:Res))∧RunFn Te x_s_l1Text [.ptr c.enc] r0:=by
 intro c hc
 refine some_of (Nat.le_of_ble_eq_true rfl) (by rfl) ?_
 simp -implicitDefEqProofs (maxSteps:=1000000) only [x_s_l1Text,go_sem]
 repeat refine ⟨sc,?_⟩
 try exact sf
 obtain ⟨r,d,⟨hr,hd⟩,ht⟩:=c_s_l1Str c [⟨#[]⟩,⟨#[97]⟩,⟨#[98,49]⟩,⟨#[115,105,120,108,101,116]⟩,⟨#[115,101,118,101,110,108,101]⟩,⟨#[65]⟩,⟨#[97,32,98]⟩,⟨#[0]⟩,⟨#[104,101,108,108,111]⟩] hc (by decide)
 refine C0 (ht) ?_
 exact ⟨r,d,⟨str_small 7 hr (by decide),hd⟩,rfl⟩
def x_s_l1Num:FnX:=⟨6,[.tmp 2],
  .q [.i 2 0]
 (.q [.m 3 0,.op 4 (.bslice 1 [(.i 0),(.i 1),(.i 7),(.i 255),(.i 256),(.i 4660),(.i 65535),(.i 65536),(.i (-1)),(.i 9223372036854775807),(.i (-9223372036854775808))]),.op 5 (.call 70 [5,1] [(.t 3),(.t 4)]),.m 2 5]
 .ret)⟩
theorem r_s_l1Num {Te:TE} (c_s_l1Int:C_s_l1Int Te):∀ (c:CurV) (hc:c.ok),∃ r0,(∃ (r:Int) (d:CurV),(d.ok)∧r0=(⟨[.one (iT r)],[d.enc]⟩:Res))∧RunFn Te x_s_l1Num [.ptr c.enc] r0:=by
 intro c hc
 refine some_of (Nat.le_of_ble_eq_true rfl) (by rfl) ?_
 simp -implicitDefEqProofs (maxSteps:=1000000) only [x_s_l1Num,go_sem]
 repeat refine ⟨sc,?_⟩
 try exact sf
 obtain ⟨r,d,⟨hr,hd⟩,ht⟩:=c_s_l1Int c [0,1,7,255,256,4660,65535,65536,-1,9223372036854775807,-9223372036854775808] hc (by decide)
 refine C0 (ht) ?_
 exact ⟨r,d,hd,rfl⟩
def x_s_l2Sign:FnX:=⟨6,[.tmp 2],
  .q [.i 2 0]
 (.q [.m 3 0,.op 4 (.bslice 1 [(.i 0),(.i 97),(.i 90),(.i 127),(.i 128),(.i 164),(.i 233),(.i 2047),(.i 2048),(.i 8364),(.i 1072),(.i 1102),(.i 1025),(.i 12354),(.i 12450),(.i 352),(.i 65535),(.i 65536),(.i 1114111)]),.op 5 (.call 70 [5,1] [(.t 3),(.t 4)]),.m 2 5]
 .ret)⟩
theorem r_s_l2Sign {Te:TE} (c_s_l1Int:C_s_l1Int Te):∀ (c:CurV) (hc:c.ok),∃ r0,(∃ (r:Int) (d:CurV),(d.ok)∧r0=(⟨[.one (iT r)],[d.enc]⟩:Res))∧RunFn Te x_s_l2Sign [.ptr c.enc] r0:=by
 intro c hc
 refine some_of (Nat.le_of_ble_eq_true rfl) (by rfl) ?_
 simp -implicitDefEqProofs (maxSteps:=1000000) only [x_s_l2Sign,go_sem]
 repeat refine ⟨sc,?_⟩
 try exact sf
 obtain ⟨r,d,⟨hr,hd⟩,ht⟩:=c_s_l1Int c [0,97,90,127,128,164,233,2047,2048,8364,1072,1102,1025,12354,12450,352,65535,65536,1114111] hc (by decide)
 refine C0 (ht) ?_
 exact ⟨r,d,hd,rfl⟩
def x_s_l5Sign:FnX:=⟨27,[.tmp 4],
  .q [.i 4 0]
 (.seq (.q [.m 7 1,.B 8 .eql 7 0]
 (.c 8 (.q [.m 9 0,.op 10 (.call 287 [5] [(.t 9)]),.m 4 10]
 .ret)))
 (.seq (.q [.m 11 1,.B 12 .eql 11 5]
 (.c 12 (.q [.m 13 0,.op 14 (.bslice 1 [(.i 97),(.i 32),(.i 12353),(.i 12435),(.i 12449),(.i 12534),(.i 12354)]),.op 15 (.call 70 [5,1] [(.t 13),(.t 14)]),.m 4 15]
 .ret)))
 (.q [.m 17 1,.m 18 0,.op 19 (.bslice 1 [(.i 65),(.i 97),(.i 32),(.i 164),(.i 192),(.i 200),(.i 228),(.i 255),(.i 163),(.i 128),(.i 130),(.i 189)]),.op 20 (.call 70 [5,1] [(.t 18),(.t 19)]),.c 21 274 [17,20],.m 16 21,.e 22 16 0,.e 23 16 1,.m 5 22,.m 6 23]
 (.seq (.q [.m 24 6,.N 25 24]
 (.c 25 (.q [.i 4 120]
 .ret)))
 (.q [.m 26 5,.m 4 26]
 .ret)))))⟩
theorem r_s_l5Sign {Te:TE} (c_s_l2Sign:C_s_l2Sign Te) (c_s_l1Int:C_s_l1Int Te) (c_s_ByteSign:C_s_ByteSign Te):∀ (c:CurV) (cs:Int) (hc:c.ok),∃ r0,(∃ (r:Int) (d:CurV),(d.ok)∧r0=(⟨[.one (iT r)],[d.enc,[iT cs]]⟩:Res))∧RunFn Te x_s_l5Sign [.ptr c.enc,.one (iT cs)] r0:=by
 intro c cs hc
 refine some_of (Nat.le_of_ble_eq_true rfl) (by rfl) ?_
 cases g0:(cs==0)
 ·cases g5:(cs==5)
  ·simp -implicitDefEqProofs (maxSteps:=1000000) only [x_s_l5Sign,go_sem,g0,g5]
   repeat refine ⟨sc,?_⟩
   try exact sf
   obtain ⟨r,d,⟨hr,hd⟩,ht⟩:=c_s_l1Int c [65,97,32,164,192,200,228,255,163,128,130,189] hc (by decide)
   refine C0 (ht) ?_
   refine C0 (c_s_ByteSign cs r) ?_
   cases g:(byteSign cs r).2
   ·refine G1 g ?_
    exact ⟨120,d,hd,rfl⟩
   ·refine G1 g ?_
    exact ⟨_,d,hd,rfl⟩
  ·simp -implicitDefEqProofs (maxSteps:=1000000) only [x_s_l5Sign,go_sem,g0,g5]
   repeat refine ⟨sc,?_⟩
   try exact sf
   obtain ⟨r,d,⟨hr,hd⟩,ht⟩:=c_s_l1Int c [97,32,12353,12435,12449,12534,12354] hc (by decide)
   refine C0 (ht) ?_
   exact ⟨r,d,hd,rfl⟩
 ·simp -implicitDefEqProofs (maxSteps:=1000000) only [x_s_l5Sign,go_sem,g0]
  repeat refine ⟨sc,?_⟩
  try exact sf
  obtain ⟨r,d,hd,ht⟩:=c_s_l2Sign c hc
  refine C0 (ht) ?_
  exact ⟨r,d,hd,rfl⟩
def x_i_FillRow:FnX:=⟨31,[.cell 2 (some 7)],
  .q [.v 1 0,.op 2 (.alloc [.e,.i 0,.nils 1,.i 0,.nils 1,.i 0,.F])]
 (.q [.L 6 7 1,.c 7 252 [6],.op 3 (.alloc [.e,.i 0,.nils 1,.i 0,.nils 1,.i 0,.F]),.s 100001 7 3 7]
 (.seq (.q [.L 8 7 1,.c 9 253 [8],.N 10 9,.m 11 10,.z 11 (.f 12 1 5),.z 11 (.l 13 12),.z 11 (.B 14 .neq 13 1),.r 15 11 14]
 (.c 15 (.q [.L 16 7 3,.s 100002 7 2 16]
 .ret)))
 (.q [.f 18 1 1,.L 19 2 18,.op 20 (.call 254 [0,0] [(.t 19),(.i 0)]),.m 17 20,.e 21 17 0,.e 22 17 1,.op 4 (.alloc [.i 0,.nils 1]),.s 100003 2 4 21,.m 5 22]
 (.seq (.q [.m 23 5,.N 24 23]
 (.c 24 (.q [.f 25 3 6,⟨none,none,100004,.store 1 (.t 25) .T⟩]
 (.q [.L 26 7 3,.s 100005 7 2 26]
 .ret))))
 (.q [.L 27 2 4,.f 28 3 3,.s 100006 2 28 27,.f 29 3 5,⟨none,none,100007,.store 1 (.t 29) (.i 3)⟩]
 (.q [.L 30 7 3,.s 100008 7 2 30]
 .ret))))))⟩
theorem r_i_FillRow {Te:TE} (c_i_copyRow:C_i_copyRow Te) (c_i_RowOk:C_i_RowOk Te) (c_i_Turn:C_i_Turn Te):C_i_FillRow (RF Te x_i_FillRow):=by
 intro r h
 have hL:=h.len (by decide)
 refine X0 x_i_FillRow.eq_1 ?_
 refine C0 (c_i_copyRow r hL) ?_
 refine C0 (c_i_RowOk r (h.mono (by decide))) ?_
 cases g1:r.ok
 ·have e:=fill_no (r:=r) (by rw [g1]; rfl)
  exact F1 e
 cases g2:(r.Has==1)
 ·have e:=fill_no (r:=r) (by rw [g1,g2]; rfl)
  try simp -implicitDefEqProofs (maxSteps:=1000000) only [go_sem,bne_eq,g2,e,take_rows]
  repeat refine ⟨sc,?_⟩
  try exact sf
  try rfl
 have g3:(r.ok&&(r.Has==1))=true:=by rw [g1,g2]; rfl
 try simp -implicitDefEqProofs (maxSteps:=1000000) only [go_sem,bne_eq,g2,take_rows]
 repeat refine ⟨sc,?_⟩
 try exact sf
 refine C0 (c_i_Turn r.Old 0 hL.1 (Nat.le_trans text_size (by decide))) ?_
 cases g4:(r.Old.turn 0).2
 ·have e:=fill_bad g3 g4
  exact F2 g4 e
 ·have e:=fill_yes g3 g4
  exact F2 g4 e
def x_s_FillRow:FnX:=⟨30,[.cell 2 (some 7)],
  .q [.v 1 0,.op 2 (.alloc [.e,.i 0,.nils 1,.i 0,.nils 1,.i 0,.F])]
 (.q [.L 6 7 1,.c 7 288 [6],.op 3 (.alloc [.e,.i 0,.nils 1,.i 0,.nils 1,.i 0,.F]),.s 100001 7 3 7]
 (.seq (.q [.L 8 7 1,.c 9 289 [8],.N 10 9,.m 11 10,.z 11 (.L 12 7 1),.z 11 (.c 13 196 [12]),.r 14 11 13]
 (.c 14 (.q [.L 15 7 3,.s 100002 7 2 15]
 .ret)))
 (.q [.f 17 1 1,.L 18 2 17,.op 19 (.call 290 [0,0] [(.t 18),(.i 0)]),.m 16 19,.e 20 16 0,.e 21 16 1,.op 4 (.alloc [.i 0,.nils 1]),.s 100003 2 4 20,.m 5 21]
 (.seq (.q [.m 22 5,.N 23 22]
 (.c 23 (.q [.f 24 3 6,⟨none,none,100004,.store 1 (.t 24) .T⟩]
 (.q [.L 25 7 3,.s 100005 7 2 25]
 .ret))))
 (.q [.L 26 2 4,.f 27 3 3,.s 100006 2 27 26]
 (.q [.f 28 3 5,⟨none,none,100007,.store 1 (.t 28) (.i 3)⟩]
 (.q [.L 29 7 3,.s 100008 7 2 29]
 .ret)))))))⟩
theorem r_s_FillRow {Te:TE} (c_s_l9Copy:C_s_l9Copy Te) (c_s_RowOk:C_s_RowOk Te) (c_s_l9New:C_s_l9New Te) (c_s_Turn:C_s_Turn Te):C_s_FillRow (RF Te x_s_FillRow):=by
 intro r h
 have hL:=h.len (by decide)
 refine X0 x_s_FillRow.eq_1 ?_
 refine C0 (c_s_l9Copy r hL) ?_
 refine C0 (c_s_RowOk r (h.mono (by decide))) ?_
 cases g1:r.ok
 ·have e:=fill_no (r:=r) (by rw [g1]; rfl)
  exact F1 e
 refine G0 ?_
 refine C0 (c_s_l9New r (rowOk_13 g1)) ?_
 cases g2:(r.Has==1)
 ·have e:=fill_no (r:=r) (by rw [g1,g2]; rfl)
  have g5:decide (r.Has≠1)=true:=decide_eq_true (by simpa using g2)
  exact F2 g5 e
 have g3:(r.ok&&(r.Has==1))=true:=by rw [g1,g2]; rfl
 have g5:decide (r.Has≠1)=false:=decide_eq_false (by simpa using g2)
 refine G1 g5 ?_
 refine C0 (c_s_Turn r.Old 0 hL.1 (Nat.le_trans text_size (by decide))) ?_
 cases g4:(r.Old.turn 0).2
 ·have e:=fill_bad g3 g4
  exact F2 g4 e
 ·have e:=fill_yes g3 g4
  exact F2 g4 e
def x_i_CutRow:FnX:=⟨18,[.cell 2 (some 7)],
  .q [.v 1 0,.op 2 (.alloc [.e,.i 0,.nils 1,.i 0,.nils 1,.i 0,.F])]
 (.q [.L 4 7 1,.c 5 252 [4],.op 3 (.alloc [.e,.i 0,.nils 1,.i 0,.nils 1,.i 0,.F]),.s 100001 7 3 5]
 (.seq (.q [.L 6 7 1,.c 7 253 [6],.m 8 7,.y 8 (.f 9 1 5),.y 8 (.l 10 9),.y 8 (.B 11 .neq 10 1),.a 12 8 11]
 (.c 12 (.reg [.op 13 (.build [.i 0,.nils 1] []),.f 14 3 1,.s 100002 2 14 13,.f 15 3 5,⟨none,none,100003,.store 1 (.t 15) (.i 2)⟩,.f 16 3 6,⟨none,none,100004,.store 1 (.t 16) .F⟩])))
 (.q [.L 17 7 3,.s 100005 7 2 17]
 .ret)))⟩
theorem r_i_CutRow {Te:TE} (c_i_copyRow:C_i_copyRow Te) (c_i_RowOk:C_i_RowOk Te):C_i_CutRow (RF Te x_i_CutRow):=by
 intro r h
 have hL:=h.len (by decide)
 refine X0 x_i_CutRow.eq_1 ?_
 refine C0 (c_i_copyRow r hL) ?_
 refine C0 (c_i_RowOk r (h.mono (by decide))) ?_
 cases g1:r.ok
 ·have e:=cut_no (r:=r) (by rw [g1]; rfl)
  exact F1 e
 cases g2:(r.Has==1)
 ·have e:=cut_yes (r:=r) (by rw [g1,g2]; rfl)
  try simp -implicitDefEqProofs (maxSteps:=1000000) only [go_sem,bne_eq,g2,e,take_rows]
  repeat refine ⟨sc,?_⟩
  try exact sf
  try rfl
 ·have e:=cut_no (r:=r) (by rw [g1,g2]; rfl)
  try simp -implicitDefEqProofs (maxSteps:=1000000) only [go_sem,bne_eq,g2,e,take_rows]
  repeat refine ⟨sc,?_⟩
  try exact sf
  try rfl
def x_s_CutRow:FnX:=⟨20,[.cell 2 (some 7)],
  .q [.v 1 0,.op 2 (.alloc [.e,.i 0,.nils 1,.i 0,.nils 1,.i 0,.F])]
 (.q [.L 4 7 1,.c 5 288 [4],.op 3 (.alloc [.e,.i 0,.nils 1,.i 0,.nils 1,.i 0,.F]),.s 100001 7 3 5]
 (.seq (.q [.L 6 7 1,.c 7 289 [6],.N 8 7,.m 9 8,.z 9 (.L 10 7 1),.z 9 (.c 11 196 [10]),.z 9 (.N 12 11),.r 13 9 12]
 (.c 13 (.q [.L 14 7 3,.s 100002 7 2 14]
 .ret)))
 (.q [.f 15 1 0,.l 16 15,.f 17 3 3,.L 18 2 17,.op 19 (.build [.e,.i 0,.nils 1,.i 0,.nils 1,.i 0,.F] [(0,1,(.t 16)),(3,2,(.t 18)),(5,1,(.i 2))]),.s 100003 7 2 19]
 .ret)))⟩
theorem r_s_CutRow {Te:TE} (c_s_l9Copy:C_s_l9Copy Te) (c_s_RowOk:C_s_RowOk Te) (c_s_l9New:C_s_l9New Te):C_s_CutRow (RF Te x_s_CutRow):=by
 intro r h
 have hL:=h.len (by decide)
 refine X0 x_s_CutRow.eq_1 ?_
 refine C0 (c_s_l9Copy r hL) ?_
 refine C0 (c_s_RowOk r (h.mono (by decide))) ?_
 cases g1:r.ok
 ·have e:=cut_no (r:=r) (by rw [g1]; rfl)
  exact F1 e
 refine G0 ?_
 refine C0 (c_s_l9New r (rowOk_13 g1)) ?_
 cases g2:(r.Has==1)
 ·have e:=cut_yes (r:=r) (by rw [g1,g2]; rfl)
  have g5:decide (r.Has≠1)=true:=decide_eq_true (by simpa using g2)
  exact F2 g5 e
 ·have e:=cut_no (r:=r) (by rw [g1,g2]; rfl)
  have g5:decide (r.Has≠1)=false:=decide_eq_false (by simpa using g2)
  exact F2 g5 e
def x_i_BackRow:FnX:=⟨24,[.cell 2 (some 7)],
  .q [.v 1 0,.op 2 (.alloc [.e,.i 0,.nils 1,.i 0,.nils 1,.i 0,.F])]
 (.q [.L 4 7 1,.c 5 252 [4],.op 3 (.alloc [.e,.i 0,.nils 1,.i 0,.nils 1,.i 0,.F]),.s 100001 7 3 5]
 (.seq (.block 0 (.q [.L 7 7 1,.c 8 253 [7],.N 9 8,.m 6 9]
 (.cond 6 .skip (.q [.f 11 1 5,.l 12 11,.B 13 .eql 12 3,.m 10 13]
 (.cond 10 (.reg [.op 14 (.build [.i 0,.nils 1] []),.f 15 3 3,.s 100002 2 15 14,.f 16 3 5,⟨none,none,100003,.store 1 (.t 16) (.i 1)⟩,.f 17 3 6,⟨none,none,100004,.store 1 (.t 17) .F⟩]) (.q [.f 19 1 5,.l 20 19,.B 21 .eql 20 2,.m 18 21]
 (.c 18 (.reg [.f 22 3 6,⟨none,none,100005,.store 1 (.t 22) .T⟩]))))))))
 (.q [.L 23 7 3,.s 100006 7 2 23]
 .ret)))⟩
theorem r_i_BackRow {Te:TE} (c_i_copyRow:C_i_copyRow Te) (c_i_RowOk:C_i_RowOk Te):C_i_BackRow (RF Te x_i_BackRow):=by
 intro r h
 have hL:=h.len (by decide)
 refine X0 x_i_BackRow.eq_1 ?_
 refine C0 (c_i_copyRow r hL) ?_
 refine C0 (c_i_RowOk r (h.mono (by decide))) ?_
 cases g1:r.ok
 ·have e:r.back=r:=by rw [RowV.back,g1]; rfl
  exact F1 e
 cases g3:(r.Has==3)
 ·cases g2:(r.Has==2)
  ·have e:r.back=r:=by rw [RowV.back,g1,g3,g2]; rfl
   exact F3 g3 g2 e
  ·have e:r.back=⟨r.Key,r.Old,r.New,r.Has,true⟩:=by rw [RowV.back,g1,g3,g2]; rfl
   exact F3 g3 g2 e
 ·have e:r.back=⟨r.Key,r.Old,⟨0,[]⟩,1,false⟩:=by rw [RowV.back,g1,g3]; rfl
  exact F2 g3 e
def x_i_NextOk:FnX:=⟨27,[.tmp 4],
  .q [.F 4]
 (.seq (.block 0 (.q [.m 6 0,.op 7 (.call 90 [0,0,0] [(.t 6),(.i 0),(.i 4)]),.m 8 7,.y 8 (.m 9 1),.y 8 (.m 10 0),.y 8 (.B 11 .add 10 1),.y 8 (.b 12 .eql 9 11),.a 13 8 12,.m 5 13]
 (.cond 5 (.q [.T 4]
 .ret) (.q [.m 15 0,.op 16 (.call 90 [0,0,0] [(.t 15),(.i 0),(.i 3)]),.m 17 16,.y 17 (.m 18 1),.y 17 (.B 19 .eql 18 6),.a 20 17 19,.m 14 20]
 (.c 14 (.q [.T 4]
 .ret))))))
 (.q [.m 21 0,.B 22 .eql 21 6,.m 23 22,.y 23 (.m 24 1),.y 23 (.B 25 .eql 24 7),.a 26 23 25,.m 4 26]
 .ret))⟩
theorem r_i_NextOk {Te:TE} (c_i_within:C_i_within Te):C_i_NextOk (RF Te x_i_NextOk):=by
 intro a b
 refine run0 ?_
 simp -implicitDefEqProofs (maxSteps:=1000000) only [x_i_NextOk,go_sem,nextOk]
 repeat refine ⟨sc,?_⟩
 try exact sf
 refine C0 (c_i_within _ _ _) ?_
 cases g1:win a 0 4
 ·refine G0 ?_
  refine C0 (c_i_within _ _ _) ?_
  cases g2:win a 0 3
  ·refine G0 ?_
   refine bif_cases (fun h=>?_) (fun h=>?_) <;> simp -implicitDefEqProofs (maxSteps:=1000000) only [h,go_sem]
  ·refine G0 ?_
   refine ⟨fun k=>?_,fun k=>?_⟩
   ·exact F1 k
   ·refine G1 k ?_
    refine bif_cases (fun h=>?_) (fun h=>?_) <;> simp -implicitDefEqProofs (maxSteps:=1000000) only [h,k,go_sem]
 ·refine G0 ?_
  refine ⟨fun j=>?_,fun j=>?_⟩
  ·exact F1 j
  ·refine G1 j ?_
   refine C0 (c_i_within _ _ _) ?_
   cases g2:win a 0 3
   ·refine G0 ?_
    refine bif_cases (fun h=>?_) (fun h=>?_) <;> simp -implicitDefEqProofs (maxSteps:=1000000) only [h,j,go_sem]
   ·refine G0 ?_
    refine ⟨fun k=>?_,fun k=>?_⟩
    ·exact F2 k j
    ·refine G1 k ?_
     refine bif_cases (fun h=>?_) (fun h=>?_) <;> simp -implicitDefEqProofs (maxSteps:=1000000) only [h,k,j,go_sem]
def x_s_NextOk:FnX:=⟨27,[.tmp 4],
  .q [.F 4]
 (.seq (.block 0 (.q [.m 6 0,.op 7 (.call 120 [0,0,0] [(.t 6),(.i 0),(.i 4)]),.m 8 7,.y 8 (.m 9 1),.y 8 (.m 10 0),.y 8 (.B 11 .add 10 1),.y 8 (.b 12 .eql 9 11),.a 13 8 12,.m 5 13]
 (.cond 5 (.q [.T 4]
 .ret) (.q [.m 15 0,.op 16 (.call 120 [0,0,0] [(.t 15),(.i 0),(.i 3)]),.m 17 16,.y 17 (.m 18 1),.y 17 (.B 19 .eql 18 6),.a 20 17 19,.m 14 20]
 (.c 14 (.q [.T 4]
 .ret))))))
 (.q [.m 21 0,.B 22 .eql 21 6,.m 23 22,.y 23 (.m 24 1),.y 23 (.B 25 .eql 24 7),.a 26 23 25,.m 4 26]
 .ret))⟩
theorem r_s_NextOk {Te:TE} (c_s_l1In:C_s_l1In Te):C_s_NextOk (RF Te x_s_NextOk):=by
 intro a b
 refine run0 ?_
 simp -implicitDefEqProofs (maxSteps:=1000000) only [x_s_NextOk,go_sem,nextOk]
 repeat refine ⟨sc,?_⟩
 try exact sf
 refine C0 (c_s_l1In _ _ _) ?_
 cases g1:win a 0 4
 ·refine G0 ?_
  refine C0 (c_s_l1In _ _ _) ?_
  cases g2:win a 0 3
  ·refine G0 ?_
   refine bif_cases (fun h=>?_) (fun h=>?_) <;> simp -implicitDefEqProofs (maxSteps:=1000000) only [h,go_sem]
  ·refine G0 ?_
   refine ⟨fun k=>?_,fun k=>?_⟩
   ·exact F1 k
   ·refine G1 k ?_
    refine bif_cases (fun h=>?_) (fun h=>?_) <;> simp -implicitDefEqProofs (maxSteps:=1000000) only [h,k,go_sem]
 ·refine G0 ?_
  refine ⟨fun j=>?_,fun j=>?_⟩
  ·exact F1 j
  ·refine G1 j ?_
   refine C0 (c_s_l1In _ _ _) ?_
   cases g2:win a 0 3
   ·refine G0 ?_
    refine bif_cases (fun h=>?_) (fun h=>?_) <;> simp -implicitDefEqProofs (maxSteps:=1000000) only [h,j,go_sem]
   ·refine G0 ?_
    refine ⟨fun k=>?_,fun k=>?_⟩
    ·exact F2 k j
    ·refine G1 k ?_
     refine bif_cases (fun h=>?_) (fun h=>?_) <;> simp -implicitDefEqProofs (maxSteps:=1000000) only [h,k,j,go_sem]
def x_s_Signs:FnX:=⟨33,[.tmp 2,.tmp 3],
  .q [.op 2 (.mv (.k (.one (.nils 1)))),.F 3]
 (.q [.op 10 (.bslice 1 []),.m 4 10]
 (.q [.m 11 0,.op 12 (.conv .s2b (.t 11)),.m 5 12]
 (.seq (.q [.i 6 0]
 (.block 0 (.loop [4,5,6] (.seq (.q [.m 13 6,.m 14 5,.n 15 14,.b 16 .lss 13 15]
 (.cond 16 .skip (.exit 0)))
 (.block 1 (.q [.m 18 5,.m 19 6,.c 20 272 [18,19],.m 17 20,.e 21 17 0,.e 22 17 1,.e 23 17 2,.m 7 21,.m 8 22,.m 9 23]
 (.seq (.q [.m 24 9,.N 25 24]
 (.c 25 (.q [.op 26 (.bslice 1 []),.m 2 26,.F 3]
 .ret)))
 (.q [.m 27 4,.m 28 7,.op 29 (.bslice 1 [(.t 28)]),.op 30 (.app 1 8 (.t 27) (.t 29)),.m 4 30]
 (.reg [.m 31 8,.m 6 31])))))))))
 (.norm [4] (.q [.m 32 4,.m 2 32,.T 3]
 .ret)))))⟩
theorem r_s_Signs {Te:TE} (c_s_GetSign:C_s_GetSign Te):C_s_Signs (RF Te x_s_Signs):=by
 intro s hs
 have hsz:=sizeL s
 refine X0 x_s_Signs.eq_1 ?_
 generalize eB:s.data.toList=B at hsz
 have eS:signsOf s=if Lib.validD B=true then (signs B,true) else ([],false):=by rw [signsOf,eB]
 refine loop_of (σ:=Nat×List Int) (fun x=>⟨[(4,.one (.rf 34 0 [] 1 0 x.2.length)),(5,.one (.rf 35 0 [] 1 0 B.length)),(6,.one (.pv (.int .i64 x.1)))],[],[(0,[sT s]),(34,[slT true 1 iR x.2]),(35,[slT true 1 uR B])]⟩) (fun x=>x.1≤B.length∧x.2.length≤x.1∧x.2++signs (B.drop x.1)=signs B∧Lib.validD (B.drop x.1)=Lib.validD B) (fun x=>B.length - x.1) (0,[]) ?_ ⟨Nat.zero_le _,Nat.le_refl _,rfl,rfl⟩ ?_
 ·simp -implicitDefEqProofs (maxSteps:=1000000) only [go_sem,ofBytes,byteT,eB]
  try rfl
 ·rintro ⟨p,acc⟩ ⟨hp,hl,ha,hv⟩
  simp only at hp hl ha hv
  cases q:decide ((p:Int) < (B.length:Int))
  ·have hd:B.drop p=[]:=List.drop_eq_nil_of_le (by simp only [decide_eq_false_iff_not] at q; omega)
   rw [hd,signs_nil,List.append_nil] at ha
   rw [hd,Lib.validD_nil] at hv
   rw [← hv,if_pos rfl,← ha] at eS
   have ea:List.take acc.length (List.map iR acc)=List.map iR acc:=take_map iR acc
   exact F3 q eS ea
  ·have k1:p < B.length:=by simp only [decide_eq_true_eq] at q; omega
   have hne:B.drop p≠[]:=by
    intro e
    have:=congrArg List.length e
    simp only [List.length_drop,List.length_nil] at this
    omega
   have hw:=Lib.decodeL_width (B.drop p)
   have hc:=decodeL_bound (B.drop p)
   have hle:=Lib.decodeL_le _ hne
   rw [List.length_drop] at hle
   rw [signs_step hne,List.drop_drop] at ha
   rw [Lib.validD_step _ hne,List.drop_drop] at hv
   have eg:getSign B p=match signAt (B.drop p) with | some d=>((d.1:Int),(p:Int) + (d.2:Nat),true) | none=>(0,0,false):=by
    rw [getSign,if_pos (by omega)]; rfl
   refine G1 q ?_
   refine C0 (c_s_GetSign B p (by omega)) ?_
   by_cases hb:(Lib.decodeL (B.drop p)).1=65533∧(Lib.decodeL (B.drop p)).2=1
   ·rw [signAt,if_pos hb] at eg
    rw [if_pos hb] at hv
    rw [← hv] at eS
    exact F2 eg eS
   ·rw [signAt,if_neg hb] at eg
    rw [if_neg hb] at hv
    generalize Lib.decodeL (B.drop p)=d at hw hc hle ha hv eg
    have ea:List.take acc.length (List.map iR acc)=List.map iR acc:=take_map iR acc
    have eb:List.map iR acc++[[Tr.pv (Value.int .i64 ((d.1:Nat):Int))]]=List.map iR (acc++[((d.1:Nat):Int)]):=by simp
    refine G3 eg ea eb ?_
    refine ⟨(p + d.2,acc++[((d.1:Nat):Int)]),?_,⟨by omega,by simp only [List.length_append,List.length_cons,List.length_nil]; omega,by rw [← ha]; simp,hv⟩,by simp only; omega⟩
    simp only [List.length_append]
    rfl
def x_i_putIn:FnX:=⟨37,[.tmp 6,.tmp 7],
  .q [.op 6 (.mv (.k (.one (.nils 1)))),.F 7]
 (.seq (.q [.m 10 0]
 (.block 0 (.q [.B 12 .eql 10 0,.m 11 12]
 (.cond 11 (.q [.m 13 1,.m 14 2,.c 15 186 [13,14],.m 6 15,.T 7]
 .ret) (.q [.B 17 .eql 10 5,.m 16 17]
 (.c 16 (.q [.m 18 1,.m 19 2,.c 20 370 [18,19],.e 21 20 0,.e 22 20 1,.m 6 21,.m 7 22]
 .ret)))))))
 (.q [.m 24 0,.m 25 2,.c 26 371 [24,25],.m 23 26,.e 27 23 0,.e 28 23 1,.m 8 27,.m 9 28]
 (.seq (.q [.m 29 9,.N 30 29]
 (.c 30 (.q [.m 31 1,.m 6 31,.F 7]
 .ret)))
 (.q [.m 32 1,.m 33 8,.op 34 (.conv (.int .u8) (.t 33)),.op 35 (.bslice 1 [(.t 34)]),.op 36 (.app 1 1 (.t 32) (.t 35)),.m 6 36,.T 7]
 .ret))))⟩
theorem r_i_putIn {Te:TE} (c_i_PutSign:C_i_PutSign Te) (c_i_PutEuc:C_i_PutEuc Te) (c_i_SignByte:C_i_SignByte Te):C_i_putIn (RF Te x_i_putIn):=by
 intro cs b n hb
 refine X0 x_i_putIn.eq_1 ?_
 cases h:(cs==0)
 ·cases h5:(cs==5)
  ·have el:putLeft cs b n = .no ():=by rw [putLeft,h,h5]; rfl
   refine G2 h h5 ?_
   refine C0 (c_i_SignByte _ _) ?_
   cases g:(signByte cs n).2
   ·have e:=putIn_no h h5 g b
    exact F3 g e el
   ·have e:=putIn_yes h h5 g b
    try simp -implicitDefEqProofs (maxSteps:=1000000) only [go_sem,g,mkU_wrap,app1B,take1B,e,el,take_rows]
    repeat refine ⟨sc,?_⟩
    try exact sf
    try rfl
  ·have el:putLeft cs b n=slT true 1 uR b:=by rw [putLeft,h,h5]; rfl
   have e:=putIn_euc h h5 b n
   refine G2 h h5 ?_
   exact D2 (c_i_PutEuc b n hb) e el
 ·have el:putLeft cs b n=slT true 1 uR b:=by rw [putLeft,h]; rfl
  have e:=putIn_utf h b n
  refine G1 h ?_
  exact D2 (c_i_PutSign b n hb) e el
def x_s_l5Put:FnX:=⟨43,[.tmp 6,.tmp 7],
  .q [.op 6 (.mv (.k (.one (.nils 1)))),.F 7]
 (.seq (.q [.m 10 0]
 (.block 0 (.q [.B 12 .eql 10 0,.m 11 12]
 (.cond 11 (.q [.m 13 1,.m 14 2,.c 15 189 [13,14],.m 16 2,.c 17 275 [16],.m 6 15,.m 7 17]
 .ret) (.q [.B 19 .eql 10 5,.m 18 19]
 (.c 18 (.q [.m 20 1,.m 21 2,.c 22 321 [20,21],.e 23 22 0,.e 24 22 1,.m 6 23,.m 7 24]
 .ret)))))))
 (.q [.m 26 0,.m 27 2,.c 28 322 [26,27],.m 25 28,.e 29 25 0,.e 30 25 1,.m 8 29,.m 9 30]
 (.seq (.q [.m 31 9,.N 32 31]
 (.c 32 (.q [.op 33 (.bslice 1 []),.m 34 1,.op 35 (.app 1 1 (.t 33) (.t 34)),.m 6 35,.F 7]
 .ret)))
 (.q [.op 36 (.bslice 1 []),.m 37 1,.op 38 (.app 1 1 (.t 36) (.t 37)),.m 39 8,.op 40 (.conv (.int .u8) (.t 39)),.op 41 (.bslice 1 [(.t 40)]),.op 42 (.app 1 1 (.t 38) (.t 41)),.m 6 42,.T 7]
 .ret))))⟩
theorem r_s_l5Put {Te:TE} (c_s_PutSign:C_s_PutSign Te) (c_s_SignOk:C_s_SignOk Te) (c_s_PutEuc:C_s_PutEuc Te) (c_s_SignByte:C_s_SignByte Te):C_s_l5Put (RF Te x_s_l5Put):=by
 intro cs b n hb hn
 refine X0 x_s_l5Put.eq_1 ?_
 cases h:(cs==0)
 ·cases h5:(cs==5)
  ·refine G2 h h5 ?_
   refine C0 (c_s_SignByte _ _) ?_
   cases g:(signByte cs n).2
   ·have e:=putIn_no h h5 g b
    exact F2 g e
   ·have e:=putIn_yes h h5 g b
    try simp -implicitDefEqProofs (maxSteps:=1000000) only [go_sem,g,mkU_wrap,app1B,take1B,e,take_rows]
    repeat refine ⟨sc,?_⟩
    try exact sf
    try rfl
  ·have e:=putIn_euc h h5 b n
   refine G2 h h5 ?_
   exact D1 (c_s_PutEuc b n hb) e
 ·have e:=putIn_utf h b n
  refine G1 h ?_
  refine C0 (c_s_PutSign b n hb) ?_
  exact D2 (c_s_SignOk n) hn e
def x_s_l10Flush:FnX:=⟨46,[],
  .seq (.q [.m 3 0,.op 4 (.nilc (.t 3)),.f 5 4 3,.l 6 5,.m 7 6,.z 7 (.m 8 0),.z 7 (.op 9 (.call 281 [6] [(.t 8)])),.z 7 (.N 10 9),.r 11 7 10]
 (.c 11 .ret))
 (.seq (.q [.i 2 0]
 (.block 0 (.loop [0,2] (.seq (.q [.m 12 2,.m 13 0,.op 14 (.nilc (.t 13)),.f 15 14 1,.l 16 15,.n 17 16,.b 18 .lss 12 17]
 (.cond 18 .skip (.exit 0)))
 (.seq (.block 1 (.draw [.m 21 0,.op 22 (.nilc (.t 21)),.f 23 22 0,.l 24 23,.m 25 0,.op 26 (.nilc (.t 25)),.f 27 26 1,.l 28 27,.m 29 2,.x 30 2 28 29,.f 31 30 0,.l 32 31,.m 33 0,.op 34 (.nilc (.t 33)),.f 35 34 1,.l 36 35,.m 37 2,.x 38 2 36 37,.f 39 38 1,.l 40 39,.x 41 1 24 32,.s 100001 1 41 40] [[],[0],[1],[2],[],[4],[5],[6],[],[7,8],[9],[10],[],[12],[13],[14],[],[15,16],[17],[18],[3,11,0,1,2,3,4,5,6,7,8,9,10,11,12,13,14,15,16,17,18,19],[20,19,0,1,2,3,4,5,6,7,8,9,10,11,12,13,14,15,16,17,18,19]]))
 (.reg [.m 19 2,.B 20 .add 19 1,.m 2 20]))))))
 (.norm [0] (.reg [.m 42 0,.op 43 (.bslice 2 []),.op 44 (.nilc (.t 42)),.f 45 44 1,.s 100002 1 45 43])))⟩
theorem r_s_l10Flush {Te:TE} (c_s_l10Op:C_s_l10Op Te):C_s_l10Flush (RF Te x_s_l10Flush):=by
 intro d hd hidx
 refine X0 x_s_l10Flush.eq_1 ?_
 cases g1:d.Down
 rotate_left
 ·have e:d.flush=d:=by rw [DevV.flush,if_pos g1]
  try simp -implicitDefEqProofs (maxSteps:=1000000) only [go_sem,g1,e,take_all,DevV.enc]
  repeat refine ⟨sc,?_⟩
  try exact sf
  try rfl
 have e:=show d.flush=if d.Fuse=0 then d.burn else ⟨flushed d.Secs d.Cache,[],d.burn.Fuse,d.burn.Down⟩ from if_neg (by rw [g1]; decide)
 refine G1 g1 ?_
 have tb:=c_s_l10Op d
 simp only [DevV.enc,g1] at tb
 have bc:=burn_cache d
 have bs:=burn_secs d
 cases g6:(d.Fuse==0)
 rotate_left
 ·have g7:d.Fuse=0:=by simpa using g6
  rw [if_pos g7] at e
  refine .of (tb) ?_
  try simp -implicitDefEqProofs (maxSteps:=1000000) only [go_sem,g6,take_all,e,g1,DevV.enc]
  repeat refine ⟨sc,?_⟩
  try exact sf
  try rfl
 have g7:¬ d.Fuse=0:=by simpa using g6
 rw [if_neg g7] at e
 refine C1 (tb) g6 ?_
 refine loop_of (σ:=Nat×List (List UInt8)) (fun x=>⟨[(0,.bp 0 0),(2,.one (.pv (.int .i64 x.1)))],[(0,[.rf 47 1 [] 1 0 d.Secs.length,.rf 47 2 [] 2 0 d.Cache.length,.pv (.int .i64 d.burn.Fuse),.pv (.bool d.burn.Down)])],[(0,[.no (),.no (),iT d.Fuse,bT false]),(47,[bT true,slT true 1 (secR true) x.2,Tr.sl true 2 () (mvRows d.Cache x.1),iT d.burn.Fuse,bT d.burn.Down])]⟩) (fun x=>x.1≤d.Cache.length∧x.2=flushed d.Secs (d.Cache.take x.1)) (fun x=>d.Cache.length - x.1) (0,d.Secs) ?_ ⟨Nat.zero_le _,rfl⟩ ?_
 ·simp -implicitDefEqProofs (maxSteps:=1000000) only [go_sem,bs,bc]
  try rfl
 ·rintro ⟨i,S⟩ ⟨hi,he⟩
  simp only at hi he
  have hl:S.length=d.Secs.length:=by rw [he,flushed_len]
  have hl2:(List.map (secR true) S).length=d.Secs.length:=by rw [List.length_map,hl]
  cases q:decide ((i:Int) < (d.Cache.length:Int))
  ·have k0:i=d.Cache.length:=by simp only [decide_eq_false_iff_not] at q; omega
   rw [k0,List.take_length] at he
   have et:List.take d.Secs.length (List.map (secR true) S)=List.map (secR true) S:=List.take_of_length_le (by omega)
   rw [← he] at e
   exact F3 q et e
  ·have k1:i < d.Cache.length:=by simp only [decide_eq_true_eq] at q; omega
   have hw:=hidx _ (List.getElem_mem k1)
   have g8:decide (0≤d.Cache[i].N)=true:=decide_eq_true hw.1
   have hn:d.Cache[i].N.toNat < S.length:=by omega
   have em:=mv_get k1
   have ec:(mvRows d.Cache i).getD i []=d.Cache[i].enc true:=by rw [List.getD_eq_getElem?_getD,em]; rfl
   have ex:=mv_set k1
   have eg:=getS hn
   have es:=setS S d.Cache[i].N.toNat d.Cache[i].B
   try simp -implicitDefEqProofs (maxSteps:=1000000) only [go_sem,q,em,ec,ex,mv_len,take_rows,g8,storeAp,setCells,eg,es,hl2]
   repeat refine ⟨sc,?_⟩
   try exact sf
   refine ⟨(i + 1,S.set d.Cache[i].N.toNat d.Cache[i].B),?_,⟨k1,by rw [he,flushed_step k1]⟩,by simp only; omega⟩
   rw [IntWalk.i64_in _ (by omega)]
   rfl
def x_i_NodeNew:FnX:=⟨10,[.cell 2 (some 10)],
  .q [.op 2 (.alloc [.nils 1,.nils 2,.i 0,.F,.nils 7,.i 0,.nils 3,.i 0,.i 0,.i 0])]
 (.seq (.q [.m 3 0,.op 4 (.call 90 [0,0,0] [(.t 3),(.i 1),(.i 5)]),.N 5 4]
 (.c 5 (.q [.op 6 (.build [.nils 1,.nils 2,.i 0,.F,.nils 7,.i 0,.nils 3,.i 0,.i 0,.i 0] []),.s 100001 10 2 6]
 .ret)))
 (.q [.c 7 121 [],.m 8 0,.op 9 (.build [.nils 1,.nils 2,.i 0,.F,.nils 7,.i 0,.nils 3,.i 0,.i 0,.i 0] [(0,9,(.t 7)),(9,1,(.t 8))]),.s 100002 10 2 9]
 .ret))⟩
theorem r_i_NodeNew {Te:TE} (c_i_within:C_i_within Te) (c_i_Format:C_i_Format Te):C_i_NodeNew (RF Te x_i_NodeNew):=by
 intro cs
 refine X0 x_i_NodeNew.eq_1 ?_
 refine C0 (c_i_within _ _ _) ?_
 cases g:win cs 1 5
 ·have e:nodeNew cs=NodeV.zero:=by rw [nodeNew,g]; rfl
  exact F1 e
 ·have e:nodeNew cs=⟨fmt,cs⟩:=by rw [nodeNew,g]; rfl
  refine G0 ?_
  exact D1 (c_i_Format) e
def x_s_NodeNew:FnX:=⟨10,[.cell 2 (some 10)],
  .q [.op 2 (.alloc [.nils 1,.nils 2,.i 0,.F,.nils 7,.i 0,.nils 3,.i 0,.i 0,.i 0])]
 (.seq (.q [.m 3 0,.op 4 (.call 120 [0,0,0] [(.t 3),(.i 1),(.i 5)]),.N 5 4]
 (.c 5 (.q [.op 6 (.build [.nils 1,.nils 2,.i 0,.F,.nils 7,.i 0,.nils 3,.i 0,.i 0,.i 0] []),.s 100001 10 2 6]
 .ret)))
 (.q [.c 7 122 [],.m 8 0,.op 9 (.build [.nils 1,.nils 2,.i 0,.F,.nils 7,.i 0,.nils 3,.i 0,.i 0,.i 0] [(0,9,(.t 7)),(9,1,(.t 8))]),.s 100002 10 2 9]
 .ret))⟩
theorem r_s_NodeNew {Te:TE} (c_s_l1In:C_s_l1In Te) (c_s_Format:C_s_Format Te):C_s_NodeNew (RF Te x_s_NodeNew):=by
 intro cs
 refine X0 x_s_NodeNew.eq_1 ?_
 refine C0 (c_s_l1In _ _ _) ?_
 cases g:win cs 1 5
 ·have e:nodeNew cs=NodeV.zero:=by rw [nodeNew,g]; rfl
  exact F1 e
 ·have e:nodeNew cs=⟨fmt,cs⟩:=by rw [nodeNew,g]; rfl
  refine G0 ?_
  exact D1 (c_s_Format) e
def x_s_NodeGet:FnX:=⟨33,[.tmp 4,.tmp 5],
  .q [.v 2 0,.op 4 (.mv (.k (.one (.pv (.string ⟨#[]⟩))))),.i 5 0]
 (.seq (.q [.L 9 10 2,.c 10 64 [9],.N 11 10]
 (.c 11 (.q [.op 4 (.mv (.k (.one (.pv (.string ⟨#[]⟩))))),.i 5 1]
 .ret)))
 (.q [.f 12 2 0,.f 13 12 4,.L 14 3 13,.m 15 1,.c 16 104 [14,15],.m 6 16]
 (.seq (.q [.m 17 6,.B 18 .lss 17 0]
 (.c 18 (.q [.op 4 (.mv (.k (.one (.pv (.string ⟨#[]⟩))))),.i 5 2]
 .ret)))
 (.q [.f 20 2 0,.f 21 20 4,.f 22 21 0,.l 23 22,.m 24 6,.x 25 7 23 24,.L 26 7 25,.c 27 105 [26],.m 19 27,.e 28 19 0,.e 29 19 1,.m 7 28,.m 8 29]
 (.seq (.q [.m 30 8,.N 31 30]
 (.c 31 (.q [.op 4 (.mv (.k (.one (.pv (.string ⟨#[]⟩))))),.i 5 4]
 .ret)))
 (.q [.m 32 7,.m 4 32,.i 5 0]
 .ret))))))⟩
theorem r_s_NodeGet {Te:TE} (c_s_l15Up:C_s_l15Up Te) (c_s_RowAt:C_s_RowAt Te) (c_s_RowText:C_s_RowText Te):C_s_NodeGet (RF Te x_s_NodeGet):=by
 intro n key h
 refine X0 x_s_NodeGet.eq_1 ?_
 refine C0 (c_s_l15Up n h) ?_
 cases g:n.up
 ·have e:n.get key=(⟨#[]⟩,1):=by rw [NodeV.get,g]; rfl
  exact F1 e
 refine G0 ?_
 refine C0 (c_s_RowAt n.S.T key h.2.1.1) ?_
 rcases rowAt_cases n.S.T.Rows key with ⟨e1,e2⟩ | ⟨hk,e1,e2⟩
 ·have e:n.get key=(⟨#[]⟩,2):=by rw [NodeV.get,g,e2]; rfl
  exact F2 e1 e
 have hr:=rowOk_13 (TabV.ok_row (NodeV.up_tab g) hk)
 have c1:decide ((rowIx n.S.T.Rows key:Int) < 0)=false:=decide_eq_false (by omega)
 refine G3 e1 e2 c1 ?_
 refine C0 (c_s_RowText n.S.T.Rows[rowIx n.S.T.Rows key] hr) ?_
 cases g2:n.S.T.Rows[rowIx n.S.T.Rows key].rtext.2
 ·have e:n.get key=(⟨#[]⟩,4):=by rw [NodeV.get,g,e2]; simp only [if_true,g2]; rfl
  exact F2 e g2
 ·have e:n.get key=(n.S.T.Rows[rowIx n.S.T.Rows key].rtext.1,0):=by rw [NodeV.get,g,e2]; simp only [if_true,g2]
  exact F2 e g2
end Go.X

