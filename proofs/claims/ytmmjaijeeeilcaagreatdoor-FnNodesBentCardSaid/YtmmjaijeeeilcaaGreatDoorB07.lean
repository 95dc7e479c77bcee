/- Texts: CVe_2 CVj_4 CT_2 CUa CVi_2 CVc CVy CVz_2 CVy_3 CG. -/
import Derived.Test.YtmmjaijeeeilcaaGreatDoorB04
set_option linter.unusedVariables false
set_option linter.unusedSimpArgs false
namespace Go.X
set_option maxRecDepth 100000
set_option maxHeartbeats 8000000
def x_i_RowOk:FnX:=⟨89,[.tmp 2],
  .q [.v 1 0,.F 2]
 (.seq (.q [.f 9 1 0,.l 10 9,.c 11 98 [10],.N 12 11,.m 13 12,.z 13 (.f 14 1 5),.z 13 (.l 15 14),.z 13 (.op 16 (.call 90 [0,0,0] [(.t 15),(.i 1),(.i 3)])),.z 13 (.N 17 16),.r 18 13 17]
 (.c 18 (.q [.F 2]
 .ret)))
 (.q [.f 20 1 1,.L 21 2 20,.c 22 177 [21],.m 19 22,.e 23 19 0,.e 24 19 1,.m 3 23,.m 4 24]
 (.q [.f 26 1 3,.L 27 2 26,.c 28 177 [27],.m 25 28,.e 29 25 0,.e 30 25 1,.m 5 29,.m 6 30]
 (.q [.f 31 1 1,.L 32 2 31,.op 33 (.build [.i 0,.nils 1] []),.c 34 173 [32,33],.m 7 34]
 (.seq (.q [.f 35 1 5,.l 36 35,.B 37 .neq 36 2]
 (.c 37 (.reg [.f 38 1 1,.L 39 2 38,.c 40 261 [39],.m 41 40,.y 41 (.f 42 1 1),.y 41 (.f 43 42 0),.y 41 (.l 44 43),.y 41 (.B 45 .neq 44 0),.a 46 41 45,.m 47 46,.y 47 (.m 48 4),.y 47 (.m 49 48),.z 49 (.f 50 1 6),.z 49 (.l 51 50),.z 49 (.m 52 51),.y 52 (.f 53 1 5),.y 52 (.l 54 53),.y 52 (.B 55 .eql 54 1),.z 49 (.a 56 52 55),.y 47 (.r 57 49 56),.a 58 47 57,.m 7 58])))
 (.q [.f 59 1 3,.L 60 2 59,.op 61 (.build [.i 0,.nils 1] []),.c 62 173 [60,61],.m 8 62]
 (.seq (.q [.f 63 1 5,.l 64 63,.B 65 .neq 64 1]
 (.c 65 (.reg [.f 66 1 3,.f 67 66 0,.l 68 67,.B 69 .eql 68 0,.m 70 69,.y 70 (.m 71 6),.a 72 70 71,.m 8 72])))
 (.q [.m 73 7,.m 74 73,.y 74 (.m 75 8),.a 76 74 75,.m 77 76,.y 77 (.f 78 1 5),.y 77 (.l 79 78),.y 77 (.B 80 .neq 79 3),.y 77 (.m 81 80),.z 81 (.f 82 1 1),.z 81 (.L 83 2 82),.z 81 (.f 84 1 3),.z 81 (.L 85 2 84),.z 81 (.c 86 305 [83,85]),.y 77 (.r 87 81 86),.a 88 77 87,.m 2 88]
 .ret))))))))⟩
theorem r_i_RowOk {Te:TE} (c_i_NameOk:C_i_NameOk Te) (c_i_within:C_i_within Te) (c_i_CellText:C_i_CellText Te) (c_i_sameCell:C_i_sameCell Te) (c_i_CellOk:C_i_CellOk Te) (c_i_SameText:C_i_SameText Te):C_i_RowOk (RF Te x_i_RowOk):=by
 intro r h
 obtain ⟨hk,_⟩:=h
 refine X0 x_i_RowOk.eq_1 ?_
 refine C0 (c_i_NameOk r.Key hk) ?_
 cases g1:nameOk r.Key
 ·have e:=rowOk_name (r:=r) g1
  exact F1 e
 refine G0 ?_
 refine C0 (c_i_within _ _ _) ?_
 cases g2:win r.Has 1 3
 ·have e:=rowOk_has (r:=r) g2
  exact F1 e
 have h3:=win13 g2
 obtain ⟨key,old,new,has,aside⟩:=r
 simp only at h3 g1 hk
 clear g2
 rcases h3 with rfl | rfl | rfl
 ·skip
  have e:=rowOk_1 (o:=old) (n:=new) (a:=aside) g1
  refine G0 ?_
  refine C0 (c_i_CellText old) ?_
  refine C0 (c_i_CellText new) ?_
  refine .of (c_i_sameCell old ⟨0,[]⟩) ?_
  try simp -implicitDefEqProofs (maxSteps:=1000000) only [go_sem,CellV.no]
  repeat refine ⟨sc,?_⟩
  try exact sf
  refine C0 (c_i_CellOk old) ?_
  have fin0:∀ z,z=false→True:=fun _ _=>trivial
  cases o1:old.ok
  ·refine G1 o1 ?_
   refine .of (c_i_sameCell new ⟨0,[]⟩) ?_
   try simp -implicitDefEqProofs (maxSteps:=1000000) only [go_sem,CellV.no,e,o1]
   repeat refine ⟨sc,?_⟩
   try exact sf
  ·cases o2:(old.Tag != 0)
   ·refine G2 o1 o2 ?_
    refine .of (c_i_sameCell new ⟨0,[]⟩) ?_
    try simp -implicitDefEqProofs (maxSteps:=1000000) only [go_sem,CellV.no,e,o1,o2]
    repeat refine ⟨sc,?_⟩
    try exact sf
   ·cases o3:old.text.2
    ·cases aside
     ·refine G3 o1 o2 o3 ?_
      refine .of (c_i_sameCell new ⟨0,[]⟩) ?_
      try simp -implicitDefEqProofs (maxSteps:=1000000) only [go_sem,CellV.no,e,o1,o2,o3]
      repeat refine ⟨sc,?_⟩
      try exact sf
     ·try simp -implicitDefEqProofs (maxSteps:=1000000) only [go_sem,o1,o2,o3,CellV.no]
      repeat refine ⟨sc,?_⟩
      try exact sf
      refine .of (c_i_sameCell new ⟨0,[]⟩) ?_
      try simp -implicitDefEqProofs (maxSteps:=1000000) only [go_sem,CellV.no]
      repeat refine ⟨sc,?_⟩
      try exact sf
      cases n1:((new.Tag==0)&&decide (new.B=[]))
      ·try simp -implicitDefEqProofs (maxSteps:=1000000) only [go_sem,n1,CellV.no,e,o1,o2,o3]
       repeat refine ⟨sc,?_⟩
       try exact sf
      ·try simp -implicitDefEqProofs (maxSteps:=1000000) only [go_sem,n1,CellV.no,e,o1,o2,o3]
       repeat refine ⟨sc,?_⟩
       try exact sf
    ·try simp -implicitDefEqProofs (maxSteps:=1000000) only [go_sem,o1,o2,o3,CellV.no]
     repeat refine ⟨sc,?_⟩
     try exact sf
     refine .of (c_i_sameCell new ⟨0,[]⟩) ?_
     try simp -implicitDefEqProofs (maxSteps:=1000000) only [go_sem,CellV.no]
     repeat refine ⟨sc,?_⟩
     try exact sf
     cases n1:((new.Tag==0)&&decide (new.B=[]))
     ·try simp -implicitDefEqProofs (maxSteps:=1000000) only [go_sem,n1,CellV.no,e,o1,o2,o3]
      repeat refine ⟨sc,?_⟩
      try exact sf
     ·try simp -implicitDefEqProofs (maxSteps:=1000000) only [go_sem,n1,CellV.no,e,o1,o2,o3]
      repeat refine ⟨sc,?_⟩
      try exact sf
 ·skip
  have e:=rowOk_2 (o:=old) (n:=new) (a:=aside) g1
  refine G0 ?_
  refine C0 (c_i_CellText old) ?_
  refine C0 (c_i_CellText new) ?_
  refine .of (c_i_sameCell old ⟨0,[]⟩) ?_
  try simp -implicitDefEqProofs (maxSteps:=1000000) only [go_sem,CellV.no]
  repeat refine ⟨sc,?_⟩
  try exact sf
  refine .of (c_i_sameCell new ⟨0,[]⟩) ?_
  try simp -implicitDefEqProofs (maxSteps:=1000000) only [go_sem,CellV.no]
  repeat refine ⟨sc,?_⟩
  try exact sf
  cases o1:((old.Tag==0)&&decide (old.B=[]))
  ·cases n1:(new.Tag==0)
   ·try simp -implicitDefEqProofs (maxSteps:=1000000) only [go_sem,o1,n1,e,CellV.no]
    repeat refine ⟨sc,?_⟩
    try exact sf
   ·try simp -implicitDefEqProofs (maxSteps:=1000000) only [go_sem,o1,n1,e,CellV.no]
    repeat refine ⟨sc,?_⟩
    try exact sf
  ·cases n1:(new.Tag==0)
   ·try simp -implicitDefEqProofs (maxSteps:=1000000) only [go_sem,o1,n1,e,CellV.no]
    repeat refine ⟨sc,?_⟩
    try exact sf
   ·cases n2:new.text.2
    ·try simp -implicitDefEqProofs (maxSteps:=1000000) only [go_sem,o1,n1,n2,e,CellV.no]
     repeat refine ⟨sc,?_⟩
     try exact sf
    ·try simp -implicitDefEqProofs (maxSteps:=1000000) only [go_sem,o1,n1,n2,e,CellV.no]
     repeat refine ⟨sc,?_⟩
     try exact sf
 ·skip
  have e:=rowOk_3 (o:=old) (n:=new) (a:=aside) g1
  refine G0 ?_
  refine C0 (c_i_CellText old) ?_
  refine C0 (c_i_CellText new) ?_
  refine .of (c_i_sameCell old ⟨0,[]⟩) ?_
  try simp -implicitDefEqProofs (maxSteps:=1000000) only [go_sem,CellV.no]
  repeat refine ⟨sc,?_⟩
  try exact sf
  refine C0 (c_i_CellOk old) ?_
  cases o1:old.ok
  ·refine G1 o1 ?_
   refine .of (c_i_sameCell new ⟨0,[]⟩) ?_
   try simp -implicitDefEqProofs (maxSteps:=1000000) only [go_sem,CellV.no]
   repeat refine ⟨sc,?_⟩
   try exact sf
   cases n1:(new.Tag==0)
   ·try simp -implicitDefEqProofs (maxSteps:=1000000) only [go_sem,n1,CellV.no,e,o1]
    repeat refine ⟨sc,?_⟩
    try exact sf
   ·try simp -implicitDefEqProofs (maxSteps:=1000000) only [go_sem,n1,CellV.no,e,o1]
    repeat refine ⟨sc,?_⟩
    try exact sf
  ·cases o2:(old.Tag != 0)
   ·refine G2 o1 o2 ?_
    refine .of (c_i_sameCell new ⟨0,[]⟩) ?_
    try simp -implicitDefEqProofs (maxSteps:=1000000) only [go_sem,CellV.no]
    repeat refine ⟨sc,?_⟩
    try exact sf
    cases n1:(new.Tag==0)
    ·try simp -implicitDefEqProofs (maxSteps:=1000000) only [go_sem,n1,CellV.no,e,o1,o2]
     repeat refine ⟨sc,?_⟩
     try exact sf
    ·try simp -implicitDefEqProofs (maxSteps:=1000000) only [go_sem,n1,CellV.no,e,o1,o2]
     repeat refine ⟨sc,?_⟩
     try exact sf
   ·cases o3:old.text.2
    ·cases aside
     ·try simp -implicitDefEqProofs (maxSteps:=1000000) only [go_sem,o1,o2,o3,CellV.no]
      repeat refine ⟨sc,?_⟩
      try exact sf
      refine .of (c_i_sameCell new ⟨0,[]⟩) ?_
      try simp -implicitDefEqProofs (maxSteps:=1000000) only [go_sem,CellV.no]
      repeat refine ⟨sc,?_⟩
      try exact sf
      cases n1:(new.Tag==0)
      ·try simp -implicitDefEqProofs (maxSteps:=1000000) only [go_sem,n1,CellV.no,e,o1,o2,o3]
       repeat refine ⟨sc,?_⟩
       try exact sf
      ·try simp -implicitDefEqProofs (maxSteps:=1000000) only [go_sem,n1,CellV.no,e,o1,o2,o3]
       repeat refine ⟨sc,?_⟩
       try exact sf
     ·try simp -implicitDefEqProofs (maxSteps:=1000000) only [go_sem,o1,o2,o3,CellV.no]
      repeat refine ⟨sc,?_⟩
      try exact sf
      refine .of (c_i_sameCell new ⟨0,[]⟩) ?_
      try simp -implicitDefEqProofs (maxSteps:=1000000) only [go_sem,CellV.no]
      repeat refine ⟨sc,?_⟩
      try exact sf
      cases n1:(new.Tag==0)
      ·try simp -implicitDefEqProofs (maxSteps:=1000000) only [go_sem,n1,CellV.no,e,o1,o2,o3]
       repeat refine ⟨sc,?_⟩
       try exact sf
      ·try simp -implicitDefEqProofs (maxSteps:=1000000) only [go_sem,n1,CellV.no,e,o1,o2,o3]
       repeat refine ⟨sc,?_⟩
       try exact sf
    ·try simp -implicitDefEqProofs (maxSteps:=1000000) only [go_sem,o1,o2,o3,CellV.no]
     repeat refine ⟨sc,?_⟩
     try exact sf
     refine .of (c_i_sameCell new ⟨0,[]⟩) ?_
     try simp -implicitDefEqProofs (maxSteps:=1000000) only [go_sem,CellV.no]
     repeat refine ⟨sc,?_⟩
     try exact sf
     cases n1:(new.Tag==0)
     ·try simp -implicitDefEqProofs (maxSteps:=1000000) only [go_sem,n1,CellV.no,e,o1,o2,o3]
      repeat refine ⟨sc,?_⟩
      try exact sf
     ·cases n2:new.text.2
      ·try simp -implicitDefEqProofs (maxSteps:=1000000) only [go_sem,n1,n2,CellV.no,e,o1,o2,o3]
       repeat refine ⟨sc,?_⟩
       try exact sf
      ·try simp -implicitDefEqProofs (maxSteps:=1000000) only [go_sem,n1,n2,CellV.no]
       repeat refine ⟨sc,?_⟩
       try exact sf
       refine .of (c_i_SameText old new) ?_
       try simp -implicitDefEqProofs (maxSteps:=1000000) only [go_sem,e,o1,o2,o3,n1,n2]
       repeat refine ⟨sc,?_⟩
       try exact sf
def x_s_PutRec:FnX:=⟨70,[.tmp 6],
  .q [.v 5 2,.op 6 (.mv (.k (.one (.nils 1))))]
 (.seq (.q [.L 8 13 5,.c 9 276 [8],.N 10 9,.m 11 10,.z 11 (.m 12 0),.z 11 (.c 13 161 [12]),.z 11 (.N 14 13),.r 15 11 14,.m 16 15,.z 16 (.m 17 1),.z 16 (.c 18 161 [17]),.z 16 (.N 19 18),.r 20 16 19]
 (.c 20 (.q [.op 21 (.bslice 1 []),.m 6 21]
 .ret)))
 (.seq (.draw [.op 22 (.bslice 1 []),.m 23 0,.c 24 282 [22,23],.m 25 1,.c 26 282 [24,25],.f 27 5 0,.l 28 27,.op 29 (.conv (.int .u8) (.t 28)),.op 30 (.bslice 1 [(.t 29)]),.op 31 (.app 1 1 (.t 26) (.t 30)),.m 7 31] [[],[],[0,1],[],[2,3,2],[],[5],[6],[7],[4,8,4],[9,9,0,1,2,3,4,5,6,7,8,9]])
 (.seq (.q [.f 32 5 0,.l 33 32]
 (.block 0 (.q [.B 35 .eql 33 1,.m 34 35]
 (.cond 34 (.reg [.m 36 7,.f 37 5 1,.L 38 7 37,.c 39 283 [36,38],.m 7 39]) (.q [.B 41 .eql 33 2,.m 40 41]
 (.cond 40 (.reg [.m 42 7,.f 43 5 8,.l 44 43,.c 45 284 [42,44],.m 7 45]) (.q [.B 47 .eql 33 3,.m 46 47]
 (.c 46 (.reg [.m 48 7,.f 49 5 9,.l 50 49,.op 51 (.conv (.int .u8) (.t 50)),.op 52 (.bslice 1 [(.t 51)]),.op 53 (.app 1 1 (.t 48) (.t 52)),.m 7 53])))))))))
 (.seq (.draw [.m 54 7,.f 55 5 10,.l 56 55,.op 57 (.conv (.int .u8) (.t 56)),.f 58 5 12,.l 59 58,.op 60 (.conv (.int .u8) (.t 59)),.op 61 (.bslice 1 [(.t 57),(.t 60)]),.op 62 (.app 1 1 (.t 54) (.t 61)),.f 63 5 11,.l 64 63,.c 65 282 [62,64],.m 7 65] [[],[],[1],[2],[],[4],[5],[3,6],[0,7],[],[9],[8,10,8],[11,11,0,1,2,3,4,5,6,7,8,9,10,11]])
 (.q [.m 66 7,.m 67 7,.c 68 285 [67],.c 69 282 [66,68],.m 6 69]
 .ret)))))⟩
theorem r_s_PutRec {Te:TE} (c_s_RecOk:C_s_RecOk Te) (c_s_l1Word:C_s_l1Word Te) (c_s_PutW:C_s_PutW Te) (c_s_PutRow:C_s_PutRow Te) (c_s_PutText:C_s_PutText Te) (c_s_Sum:C_s_Sum Te):C_s_PutRec (RF Te x_s_PutRec):=by
 intro gen place r h
 have h1:=h.1
 have h2:=h.2
 refine X0 x_s_PutRec.eq_1 ?_
 refine C0 (c_s_RecOk r h) ?_
 cases g1:r.ok
 ·have e:=recNo1 (gen:=gen) (place:=place) g1
  exact F1 e
 refine G0 ?_
 refine C0 (c_s_l1Word _) ?_
 cases g2:win gen 0 65535
 ·have e:=recNo2 (place:=place) (r:=r) g2
  exact F1 e
 refine G0 ?_
 refine C0 (c_s_l1Word _) ?_
 cases g3:win place 0 65535
 ·have e:=recNo3 (gen:=gen) (r:=r) g3
  exact F1 e
 refine G0 ?_
 have ey:=recYes g1 g2 g3
 have lw:(putW (putW [] gen) place).length=4:=by rw [putW_len,putW_len]; rfl
 have t1:=c_s_PutW [] gen (by show 0≤2 ^ 30; decide)
 refine C0 (t1) ?_
 refine .of (c_s_PutW (putW [] gen) place (by rw [putW_len]; show 0 + 2≤2 ^ 30; decide)) ?_
 try simp -implicitDefEqProofs (maxSteps:=1000000) only [go_sem,mkU_wrap,app1B,take1B]
 repeat refine ⟨sc,?_⟩
 try exact sf
 have e1:putW (putW [] gen) place++[mkU r.Kind]=recHead gen place r:=rfl
 have e2:(putW (putW [] gen) place).length + 1=(recHead gen place r).length:=by rw [recHead,List.length_append]; rfl
 simp only [e1,e2]
 have l0:=recHead_len gen place r
 generalize eH:recHead gen place r=H at l0 ⊢
 by_cases q1:r.Kind=1
 ·have k1:(r.Kind==1)=true:=by rw [q1]; rfl
  refine G1 k1 ?_
  refine C0 (c_s_PutRow H r.R (by omega) h1) ?_
  have e3:putRow H r.R=recKind H r:=(if_pos q1).symm
  have l3:=recKind_len H r
  try simp -implicitDefEqProofs (maxSteps:=1000000) only [go_sem,e3,mkU_wrap,app2B,take2B]
  repeat refine ⟨sc,?_⟩
  try exact sf
  have tt:=c_s_PutW (recKind H r++[mkU r.Who,mkU r.Code]) r.Seq (by rw [List.length_append]; simp only [List.length_cons,List.length_nil]; omega)
  have e4:putW (recKind H r++[mkU r.Who,mkU r.Code]) r.Seq=recBody gen place r:=by rw [recBody,eH]
  rw [e4] at tt
  refine C0 (tt) ?_
  have l4:=recBody_len gen place r
  refine C0 (c_s_Sum (recBody gen place r) (by omega)) ?_
  refine .of (c_s_PutW (recBody gen place r) _ (by omega)) ?_
  try simp -implicitDefEqProofs (maxSteps:=1000000) only [go_sem,ey]
  repeat refine ⟨sc,?_⟩
  try exact sf
 by_cases q2:r.Kind=2
 ·have k1:(r.Kind==1)=false:=by rw [q2]; rfl
  have k2:(r.Kind==2)=true:=by rw [q2]; rfl
  refine G2 k1 k2 ?_
  refine C0 (c_s_PutText H r.Key (by omega) h2) ?_
  have e3:putText H r.Key=recKind H r:=by rw [recKind,if_neg q1,if_pos q2]
  have l3:=recKind_len H r
  try simp -implicitDefEqProofs (maxSteps:=1000000) only [go_sem,e3,mkU_wrap,app2B,take2B]
  repeat refine ⟨sc,?_⟩
  try exact sf
  have tt:=c_s_PutW (recKind H r++[mkU r.Who,mkU r.Code]) r.Seq (by rw [List.length_append]; simp only [List.length_cons,List.length_nil]; omega)
  have e4:putW (recKind H r++[mkU r.Who,mkU r.Code]) r.Seq=recBody gen place r:=by rw [recBody,eH]
  rw [e4] at tt
  refine C0 (tt) ?_
  have l4:=recBody_len gen place r
  refine C0 (c_s_Sum (recBody gen place r) (by omega)) ?_
  refine .of (c_s_PutW (recBody gen place r) _ (by omega)) ?_
  try simp -implicitDefEqProofs (maxSteps:=1000000) only [go_sem,ey]
  repeat refine ⟨sc,?_⟩
  try exact sf
 by_cases q3:r.Kind=3
 ·have k1:(r.Kind==1)=false:=by rw [q3]; rfl
  have k2:(r.Kind==2)=false:=by rw [q3]; rfl
  have k3:(r.Kind==3)=true:=by rw [q3]; rfl
  have e3:H++[mkU r.N]=recKind H r:=by rw [recKind,if_neg q1,if_neg q2,if_pos q3]
  have e5:H.length + 1=(recKind H r).length:=by rw [← e3,List.length_append]; rfl
  have l3:=recKind_len H r
  try simp -implicitDefEqProofs (maxSteps:=1000000) only [go_sem,k1,k2,k3,mkU_wrap,app1B,e3,e5,take_rows]
  repeat refine ⟨sc,?_⟩
  try exact sf
  try simp -implicitDefEqProofs (maxSteps:=1000000) only [go_sem,e3,mkU_wrap,app2B,take2B]
  repeat refine ⟨sc,?_⟩
  try exact sf
  have tt:=c_s_PutW (recKind H r++[mkU r.Who,mkU r.Code]) r.Seq (by rw [List.length_append]; simp only [List.length_cons,List.length_nil]; omega)
  have e4:putW (recKind H r++[mkU r.Who,mkU r.Code]) r.Seq=recBody gen place r:=by rw [recBody,eH]
  rw [e4] at tt
  refine C0 (tt) ?_
  have l4:=recBody_len gen place r
  refine C0 (c_s_Sum (recBody gen place r) (by omega)) ?_
  refine .of (c_s_PutW (recBody gen place r) _ (by omega)) ?_
  try simp -implicitDefEqProofs (maxSteps:=1000000) only [go_sem,ey]
  repeat refine ⟨sc,?_⟩
  try exact sf
 obtain ⟨k1,k2,k3⟩:=other3 q1 q2 q3
 refine G3 k1 k2 k3 ?_
 have e3:recKind H r=H:=by rw [recKind,if_neg q1,if_neg q2,if_neg q3]
 try simp -implicitDefEqProofs (maxSteps:=1000000) only [go_sem,mkU_wrap,app2B,take2B]
 repeat refine ⟨sc,?_⟩
 try exact sf
 have tt:=c_s_PutW (H++[mkU r.Who,mkU r.Code]) r.Seq (by rw [List.length_append]; simp only [List.length_cons,List.length_nil]; omega)
 have e4:putW (H++[mkU r.Who,mkU r.Code]) r.Seq=recBody gen place r:=by rw [recBody,eH,e3]
 rw [e4] at tt
 refine C0 (tt) ?_
 have l4:=recBody_len gen place r
 refine C0 (c_s_Sum (recBody gen place r) (by omega)) ?_
 refine .of (c_s_PutW (recBody gen place r) _ (by omega)) ?_
 try simp -implicitDefEqProofs (maxSteps:=1000000) only [go_sem,ey]
 repeat refine ⟨sc,?_⟩
 try exact sf
def x_i_HeadOf:FnX:=⟨22,[.tmp 4],
  .q [.op 4 (.mv (.k (.one (.nils 1))))]
 (.seq (.q [.m 6 0,.op 7 (.call 90 [0,0,0] [(.t 6),(.i 1),(.i 60000)]),.N 8 7,.m 9 8,.z 9 (.m 10 1),.z 9 (.op 11 (.call 90 [0,0,0] [(.t 10),(.i 0),(.i 30)])),.z 9 (.N 12 11),.r 13 9 12]
 (.c 13 (.q [.op 4 (.mv (.k (.one (.nils 1))))]
 .ret)))
 (.q [.m 14 0,.op 15 (.call 312 [0,0] [(.k (.one (.nils 1))),(.t 14)]),.m 16 1,.c 17 312 [15,16],.m 5 17]
 (.q [.m 18 5,.m 19 5,.c 20 315 [19],.c 21 312 [18,20],.m 4 21]
 .ret)))⟩
theorem r_i_HeadOf {Te:TE} (c_i_within:C_i_within Te) (c_i_PutW:C_i_PutW Te) (c_i_Sum:C_i_Sum Te):C_i_HeadOf (RF Te x_i_HeadOf):=by
 intro gen n
 refine X0 x_i_HeadOf.eq_1 ?_
 refine C0 (c_i_within _ _ _) ?_
 cases g1:win gen 1 60000
 ·have e:headOf gen n=[]:=by rw [headOf,headGood,g1]; rfl
  exact F1 e
 refine G0 ?_
 refine C0 (c_i_within _ _ _) ?_
 cases g2:win n 0 30
 ·have e:headOf gen n=[]:=by rw [headOf,headGood,g1,g2]; rfl
  exact F1 e
 refine G0 ?_
 have e:headOf gen n=putW (putW (putW [] gen) n) (sum (putW (putW [] gen) n):Nat):=by rw [headOf,headGood,g1,g2]; rfl
 have l1:(putW (putW [] gen) n).length=4:=by rw [putW_len,putW_len]; rfl
 have t1:=c_i_PutW [] gen (by show 0≤2 ^ 30; decide)
 refine C0 (t1) ?_
 refine C0 (c_i_PutW (putW [] gen) n (by rw [putW_len]; show 0 + 2≤2 ^ 30; decide)) ?_
 refine C0 (c_i_Sum (putW (putW [] gen) n) (by omega)) ?_
 refine .of (c_i_PutW (putW (putW [] gen) n) _ (by omega)) ?_
 try simp -implicitDefEqProofs (maxSteps:=1000000) only [go_sem,e]
 repeat refine ⟨sc,?_⟩
 try exact sf
def x_u_appendRuneNonASCII:FnX:=⟨78,[.tmp 4],
  .q [.op 4 (.mv (.k (.one (.nils 1))))]
 (.q [.m 6 1,.op 7 (.conv (.int .u32) (.t 6)),.m 5 7]
 (.block 0 (.q [.m 12 5,.op 13 (.bin .leq (.t 12) (.k (.one (.pv (.int .u32 2047))))),.m 11 13]
 (.cond 11 (.q [.m 14 0,.m 15 1,.op 16 (.bin .shr (.t 15) (.k (.one (.pv (.int .u64 6))))),.op 17 (.conv (.int .u8) (.t 16)),.op 18 (.bin .or (.k (.one (.pv (.int .u8 192)))) (.t 17)),.m 19 1,.op 20 (.conv (.int .u8) (.t 19)),.op 21 (.bin .and (.t 20) (.k (.one (.pv (.int .u8 63))))),.op 22 (.bin .or (.k (.one (.pv (.int .u8 128)))) (.t 21)),.op 23 (.bslice 1 [(.t 18),(.t 22)]),.op 24 (.app 1 1 (.t 14) (.t 23)),.m 4 24]
 .ret) (.seq (.q [.m 26 5,.op 27 (.bin .lss (.t 26) (.k (.one (.pv (.int .u32 55296))))),.m 25 27]
 (.cond 25 .skip (.reg [.m 28 5,.op 29 (.bin .lss (.k (.one (.pv (.int .u32 57343)))) (.t 28)),.m 30 29,.y 30 (.m 31 5),.y 30 (.op 32 (.bin .leq (.t 31) (.k (.one (.pv (.int .u32 65535)))))),.a 33 30 32,.m 25 33])))
 (.cond 25 (.q [.m 34 0,.m 35 1,.op 36 (.bin .shr (.t 35) (.k (.one (.pv (.int .u64 12))))),.op 37 (.conv (.int .u8) (.t 36)),.op 38 (.bin .or (.k (.one (.pv (.int .u8 224)))) (.t 37)),.m 39 1,.op 40 (.bin .shr (.t 39) (.k (.one (.pv (.int .u64 6))))),.op 41 (.conv (.int .u8) (.t 40)),.op 42 (.bin .and (.t 41) (.k (.one (.pv (.int .u8 63))))),.op 43 (.bin .or (.k (.one (.pv (.int .u8 128)))) (.t 42)),.m 44 1,.op 45 (.conv (.int .u8) (.t 44)),.op 46 (.bin .and (.t 45) (.k (.one (.pv (.int .u8 63))))),.op 47 (.bin .or (.k (.one (.pv (.int .u8 128)))) (.t 46)),.op 48 (.bslice 1 [(.t 38),(.t 43),(.t 47)]),.op 49 (.app 1 1 (.t 34) (.t 48)),.m 4 49]
 .ret) (.q [.m 51 5,.op 52 (.bin .gtr (.t 51) (.k (.one (.pv (.int .u32 65535))))),.m 53 52,.y 53 (.m 54 5),.y 53 (.op 55 (.bin .leq (.t 54) (.k (.one (.pv (.int .u32 1114111)))))),.a 56 53 55,.m 50 56]
 (.cond 50 (.q [.m 57 0,.m 58 1,.op 59 (.bin .shr (.t 58) (.k (.one (.pv (.int .u64 18))))),.op 60 (.conv (.int .u8) (.t 59)),.op 61 (.bin .or (.k (.one (.pv (.int .u8 240)))) (.t 60)),.m 62 1,.op 63 (.bin .shr (.t 62) (.k (.one (.pv (.int .u64 12))))),.op 64 (.conv (.int .u8) (.t 63)),.op 65 (.bin .and (.t 64) (.k (.one (.pv (.int .u8 63))))),.op 66 (.bin .or (.k (.one (.pv (.int .u8 128)))) (.t 65)),.m 67 1,.op 68 (.bin .shr (.t 67) (.k (.one (.pv (.int .u64 6))))),.op 69 (.conv (.int .u8) (.t 68)),.op 70 (.bin .and (.t 69) (.k (.one (.pv (.int .u8 63))))),.op 71 (.bin .or (.k (.one (.pv (.int .u8 128)))) (.t 70)),.m 72 1,.op 73 (.conv (.int .u8) (.t 72)),.op 74 (.bin .and (.t 73) (.k (.one (.pv (.int .u8 63))))),.op 75 (.bin .or (.k (.one (.pv (.int .u8 128)))) (.t 74)),.op 76 (.bslice 1 [(.t 61),(.t 66),(.t 71),(.t 75)]),.op 77 (.app 1 1 (.t 57) (.t 76)),.m 4 77]
 .ret) (.q [.m 8 0,.op 9 (.bslice 1 [(.k (.one (.pv (.int .u8 239)))),(.k (.one (.pv (.int .u8 191)))),(.k (.one (.pv (.int .u8 189))))]),.op 10 (.app 1 1 (.t 8) (.t 9)),.m 4 10]
 .ret)))))))))⟩
theorem r_u_appendRuneNonASCII {Te:TE}:C_u_appendRuneNonASCII (RF Te x_u_appendRuneNonASCII):=by
 intro b m hb hm
 refine run0 ?_
 obtain ⟨hq,h1,h2⟩:=hm
 replace hq:¬ m≤127:=by omega
 have w32:IntKind.u32.wrap (m:Int)=(m:Int):=by rw [IntKind.wrap_u32]; omega
 have d6:(m:Int).fdiv (2 ^ 6)=((m / 64:Nat):Int):=fdivN m 64
 have d12:(m:Int).fdiv (2 ^ 12)=((m / 4096:Nat):Int):=fdivN m 4096
 have d18:(m:Int).fdiv (2 ^ 18)=((m / 262144:Nat):Int):=fdivN m 262144
 have n6:Nat.min 6 32=6:=rfl
 have n12:Nat.min 12 32=12:=rfl
 have n18:Nat.min 18 32=18:=rfl
 have a0:andK .u8 (((mkU (m:Int)).toNat:Nat):Int) 63=((m % 64:Nat):Int):=by rw [mkU_toNat,and8 _ (by omega)]; omega
 have a6:andK .u8 (((mkU ((m / 64:Nat):Int)).toNat:Nat):Int) 63=((m / 64 % 64:Nat):Int):=by rw [mkU_toNat,and8 _ (by omega)]; omega
 have a12:andK .u8 (((mkU ((m / 4096:Nat):Int)).toNat:Nat):Int) 63=((m / 4096 % 64:Nat):Int):=by rw [mkU_toNat,and8 _ (by omega)]; omega
 have o0:orK .u8 128 ((m % 64:Nat):Int)=((UInt8.ofNat (128 + m % 64)).toNat:Int):=or8 128 6 2 rfl (by omega) (by omega)
 have o6:orK .u8 128 ((m / 64 % 64:Nat):Int)=((UInt8.ofNat (128 + m / 64 % 64)).toNat:Int):=or8 128 6 2 rfl (by omega) (by omega)
 have o12:orK .u8 128 ((m / 4096 % 64:Nat):Int)=((UInt8.ofNat (128 + m / 4096 % 64)).toNat:Int):=or8 128 6 2 rfl (by omega) (by omega)
 cases q2:decide ((m:Int)≤2047)
 ·have hq2:¬ m≤2047:=by simp only [decide_eq_false_iff_not] at q2; omega
  cases q3:decide ((m:Int)≤65535)
  ·have hq3:¬ m≤65535:=by simp only [decide_eq_false_iff_not] at q3; omega
   have t:orK .u8 240 (((mkU ((m / 262144:Nat):Int)).toNat:Nat):Int)=((UInt8.ofNat (240 + m / 262144)).toNat:Int):=by
    rw [mkU_toNat,Nat.mod_eq_of_lt (by omega)]; exact or8 240 3 30 rfl (by omega) (by omega)
   have ee:List.take (b.length + 4) (List.map uR b++[[uT (UInt8.ofNat (240 + m / 262144))],[uT (UInt8.ofNat (128 + m / 4096 % 64))],[uT (UInt8.ofNat (128 + m / 64 % 64))],[uT (UInt8.ofNat (128 + m % 64))]])=List.map uR (b++enc8 m):=by
    rw [List.take_of_length_le (by simp)]
    simp only [enc8,if_neg hq,if_neg hq2,if_neg hq3,List.map_append,List.map_cons,List.map_nil]
   have c1:decide ((m:Int) < 55296)=false:=decide_eq_false (by omega)
   have c2:decide ((57343:Int) < (m:Int))=true:=decide_eq_true (by omega)
   have c3:decide ((m:Int) > 65535)=true:=decide_eq_true (by omega)
   have c4:decide ((m:Int)≤1114111)=true:=decide_eq_true (by omega)
   simp -implicitDefEqProofs (maxSteps:=1000000) only [x_u_appendRuneNonASCII,go_sem,w32,q2,q3,c1,c2,c3,c4,n6,n12,n18,d6,d12,d18,mkU_wrap,a0,a6,a12,o0,o6,o12,t,ee]
   repeat refine ⟨sc,?_⟩
   try exact sf
  ·have hq3:m≤65535:=by simp only [decide_eq_true_eq] at q3; omega
   have t:orK .u8 224 (((mkU ((m / 4096:Nat):Int)).toNat:Nat):Int)=((UInt8.ofNat (224 + m / 4096)).toNat:Int):=by
    rw [mkU_toNat,Nat.mod_eq_of_lt (by omega)]; exact or8 224 4 14 rfl (by omega) (by omega)
   have ee:List.take (b.length + 3) (List.map uR b++[[uT (UInt8.ofNat (224 + m / 4096))],[uT (UInt8.ofNat (128 + m / 64 % 64))],[uT (UInt8.ofNat (128 + m % 64))]])=List.map uR (b++enc8 m):=by
    rw [List.take_of_length_le (by simp)]
    simp only [enc8,if_neg hq,if_neg hq2,if_pos hq3,List.map_append,List.map_cons,List.map_nil]
   cases c1:decide ((m:Int) < 55296)
   ·have c2:decide ((57343:Int) < (m:Int))=true:=decide_eq_true (by simp only [decide_eq_false_iff_not] at c1; omega)
    simp -implicitDefEqProofs (maxSteps:=1000000) only [x_u_appendRuneNonASCII,go_sem,w32,q2,q3,c1,c2,n6,n12,d6,d12,mkU_wrap,a0,a6,o0,o6,t,ee]
    repeat refine ⟨sc,?_⟩
    try exact sf
   ·simp -implicitDefEqProofs (maxSteps:=1000000) only [x_u_appendRuneNonASCII,go_sem,w32,q2,q3,c1,n6,n12,d6,d12,mkU_wrap,a0,a6,o0,o6,t,ee]
    repeat refine ⟨sc,?_⟩
    try exact sf
 ·have hq2:m≤2047:=by simp only [decide_eq_true_eq] at q2; omega
  have t:orK .u8 192 (((mkU ((m / 64:Nat):Int)).toNat:Nat):Int)=((UInt8.ofNat (192 + m / 64)).toNat:Int):=by
   rw [mkU_toNat,Nat.mod_eq_of_lt (by omega)]; exact or8 192 6 3 rfl (by omega) (by omega)
  have ee:List.take (b.length + 2) (List.map uR b++[[uT (UInt8.ofNat (192 + m / 64))],[uT (UInt8.ofNat (128 + m % 64))]])=List.map uR (b++enc8 m):=by
   rw [List.take_of_length_le (by simp)]
   simp only [enc8,if_neg hq,if_pos hq2,List.map_append,List.map_cons,List.map_nil]
  simp -implicitDefEqProofs (maxSteps:=1000000) only [x_u_appendRuneNonASCII,go_sem,w32,q2,n6,d6,mkU_wrap,a0,o0,t,ee]
  repeat refine ⟨sc,?_⟩
  try exact sf
def x_s_l1Name:FnX:=⟨6,[.tmp 2],
  .q [.op 2 (.mv (.k (.one (.pv (.string ⟨#[]⟩)))))]
 (.q [.m 3 0,.op 4 (.bslice 1 [(.k (.one (.pv (.string ⟨#[97]⟩)))),(.k (.one (.pv (.string ⟨#[98]⟩)))),(.k (.one (.pv (.string ⟨#[99]⟩)))),(.k (.one (.pv (.string ⟨#[100]⟩)))),(.k (.one (.pv (.string ⟨#[101,53]⟩))))]),.op 5 (.call 114 [5,1] [(.t 3),(.t 4)]),.m 2 5]
 .ret)⟩
theorem r_s_l1Name {Te:TE} (c_s_l1Str:C_s_l1Str Te):∀ (c:CurV) (hc:c.ok),∃ r0,(∃ (r:ByteArray) (d:CurV),(r.size≤6∧d.ok)∧r0=(⟨[.one (sT r)],[d.enc]⟩:Res))∧RunFn Te x_s_l1Name [.ptr c.enc] r0:=by
 intro c hc
 refine some_of (Nat.le_of_ble_eq_true rfl) (by rfl) ?_
 simp -implicitDefEqProofs (maxSteps:=1000000) only [x_s_l1Name,go_sem]
 repeat refine ⟨sc,?_⟩
 try exact sf
 obtain ⟨r,d,⟨hr,hd⟩,ht⟩:=c_s_l1Str c [⟨#[97]⟩,⟨#[98]⟩,⟨#[99]⟩,⟨#[100]⟩,⟨#[101,53]⟩] hc (by decide)
 refine C0 (ht) ?_
 exact ⟨r,d,⟨str_small 6 hr (by decide),hd⟩,rfl⟩
def x_s_l1Text:FnX:=⟨6,[.tmp 2],
  .q [.op 2 (.mv (.k (.one (.pv (.string ⟨#[]⟩)))))]
 (.q [.m 3 0,.op 4 (.bslice 1 [(.k (.one (.pv (.string ⟨#[]⟩)))),(.k (.one (.pv (.string ⟨#[97]⟩)))),(.k (.one (.pv (.string ⟨#[98,49]⟩)))),(.k (.one (.pv (.string ⟨#[115,105,120,108,101,116]⟩)))),(.k (.one (.pv (.string ⟨#[115,101,118,101,110,108,101]⟩)))),(.k (.one (.pv (.string ⟨#[65]⟩)))),(.k (.one (.pv (.string ⟨#[97,32,98]⟩)))),(.k (.one (.pv (.string ⟨#[0]⟩)))),(.k (.one (.pv (.string ⟨#[104,101,108,108,111]⟩))))]),.op 5 (.call 114 [5,1] [(.t 3),(.t 4)]),.m 2 5]
 .ret)⟩
theorem r_s_l1Text {Te:TE} (c_s_l1Str:C_s_l1Str Te):∀ (c:CurV) (hc:c.ok),∃ r0,(∃ (r:ByteArray) (d:CurV),(r.size≤7∧d.ok)∧r0=(⟨[.one (sT r)],[d.enc]⟩:Res))∧RunFn Te x_s_l1Text [.ptr c.enc] r0:=by
 intro c hc
 refine some_of (Nat.le_of_ble_eq_true rfl) (by rfl) ?_
 simp -implicitDefEqProofs (maxSteps:=1000000) only [x_s_l1Text,go_sem]
 repeat refine ⟨sc,?_⟩
 try exact sf
 obtain ⟨r,d,⟨hr,hd⟩,ht⟩:=c_s_l1Str c [⟨#[]⟩,⟨#[97]⟩,⟨#[98,49]⟩,⟨#[115,105,120,108,101,116]⟩,⟨#[115,101,118,101,110,108,101]⟩,⟨#[65]⟩,⟨#[97,32,98]⟩,⟨#[0]⟩,⟨#[104,101,108,108,111]⟩] hc (by decide)
 refine C0 (ht) ?_
 exact ⟨r,d,⟨str_small 7 hr (by decide),hd⟩,rfl⟩
def x_s_l1Num:FnX:=⟨6,[.tmp 2],
  .q [.i 2 0]
 (.q [.m 3 0,.op 4 (.bslice 1 [(.i 0),(.i 1),(.i 7),(.i 255),(.i 256),(.i 4660),(.i 65535),(.i 65536),(.i (-1)),(.i 9223372036854775807),(.i (-9223372036854775808))]),.op 5 (.call 70 [5,1] [(.t 3),(.t 4)]),.m 2 5]
 .ret)⟩
theorem r_s_l1Num {Te:TE} (c_s_l1Int:C_s_l1Int Te):∀ (c:CurV) (hc:c.ok),∃ r0,(∃ (r:Int) (d:CurV),(d.ok)∧r0=(⟨[.one (iT r)],[d.enc]⟩:Res))∧RunFn Te x_s_l1Num [.ptr c.enc] r0:=by
 intro c hc
 refine some_of (Nat.le_of_ble_eq_true rfl) (by rfl) ?_
 simp -implicitDefEqProofs (maxSteps:=1000000) only [x_s_l1Num,go_sem]
 repeat refine ⟨sc,?_⟩
 try exact sf
 obtain ⟨r,d,⟨hr,hd⟩,ht⟩:=c_s_l1Int c [0,1,7,255,256,4660,65535,65536,-1,9223372036854775807,-9223372036854775808] hc (by decide)
 refine C0 (ht) ?_
 exact ⟨r,d,hd,rfl⟩
def x_s_l2Sign:FnX:=⟨6,[.tmp 2],
  .q [.i 2 0]
 (.q [.m 3 0,.op 4 (.bslice 1 [(.i 0),(.i 97),(.i 90),(.i 127),(.i 128),(.i 164),(.i 233),(.i 2047),(.i 2048),(.i 8364),(.i 1072),(.i 1102),(.i 1025),(.i 12354),(.i 12450),(.i 352),(.i 65535),(.i 65536),(.i 1114111)]),.op 5 (.call 70 [5,1] [(.t 3),(.t 4)]),.m 2 5]
 .ret)⟩
theorem r_s_l2Sign {Te:TE} (c_s_l1Int:C_s_l1Int Te):∀ (c:CurV) (hc:c.ok),∃ r0,(∃ (r:Int) (d:CurV),(d.ok)∧r0=(⟨[.one (iT r)],[d.enc]⟩:Res))∧RunFn Te x_s_l2Sign [.ptr c.enc] r0:=by
 intro c hc
 refine some_of (Nat.le_of_ble_eq_true rfl) (by rfl) ?_
 simp -implicitDefEqProofs (maxSteps:=1000000) only [x_s_l2Sign,go_sem]
 repeat refine ⟨sc,?_⟩
 try exact sf
 obtain ⟨r,d,⟨hr,hd⟩,ht⟩:=c_s_l1Int c [0,97,90,127,128,164,233,2047,2048,8364,1072,1102,1025,12354,12450,352,65535,65536,1114111] hc (by decide)
 refine C0 (ht) ?_
 exact ⟨r,d,hd,rfl⟩
def x_s_l5Sign:FnX:=⟨27,[.tmp 4],
  .q [.i 4 0]
 (.seq (.q [.m 7 1,.B 8 .eql 7 0]
 (.c 8 (.q [.m 9 0,.op 10 (.call 287 [5] [(.t 9)]),.m 4 10]
 .ret)))
 (.seq (.q [.m 11 1,.B 12 .eql 11 5]
 (.c 12 (.q [.m 13 0,.op 14 (.bslice 1 [(.i 97),(.i 32),(.i 12353),(.i 12435),(.i 12449),(.i 12534),(.i 12354)]),.op 15 (.call 70 [5,1] [(.t 13),(.t 14)]),.m 4 15]
 .ret)))
 (.q [.m 17 1,.m 18 0,.op 19 (.bslice 1 [(.i 65),(.i 97),(.i 32),(.i 164),(.i 192),(.i 200),(.i 228),(.i 255),(.i 163),(.i 128),(.i 130),(.i 189)]),.op 20 (.call 70 [5,1] [(.t 18),(.t 19)]),.c 21 274 [17,20],.m 16 21,.e 22 16 0,.e 23 16 1,.m 5 22,.m 6 23]
 (.seq (.q [.m 24 6,.N 25 24]
 (.c 25 (.q [.i 4 120]
 .ret)))
 (.q [.m 26 5,.m 4 26]
 .ret)))))⟩
theorem r_s_l5Sign {Te:TE} (c_s_l2Sign:C_s_l2Sign Te) (c_s_l1Int:C_s_l1Int Te) (c_s_ByteSign:C_s_ByteSign Te):∀ (c:CurV) (cs:Int) (hc:c.ok),∃ r0,(∃ (r:Int) (d:CurV),(d.ok)∧r0=(⟨[.one (iT r)],[d.enc,[iT cs]]⟩:Res))∧RunFn Te x_s_l5Sign [.ptr c.enc,.one (iT cs)] r0:=by
 intro c cs hc
 refine some_of (Nat.le_of_ble_eq_true rfl) (by rfl) ?_
 cases g0:(cs==0)
 ·cases g5:(cs==5)
  ·simp -implicitDefEqProofs (maxSteps:=1000000) only [x_s_l5Sign,go_sem,g0,g5]
   repeat refine ⟨sc,?_⟩
   try exact sf
   obtain ⟨r,d,⟨hr,hd⟩,ht⟩:=c_s_l1Int c [65,97,32,164,192,200,228,255,163,128,130,189] hc (by decide)
   refine C0 (ht) ?_
   refine C0 (c_s_ByteSign cs r) ?_
   cases g:(byteSign cs r).2
   ·refine G1 g ?_
    exact ⟨120,d,hd,rfl⟩
   ·refine G1 g ?_
    exact ⟨_,d,hd,rfl⟩
  ·simp -implicitDefEqProofs (maxSteps:=1000000) only [x_s_l5Sign,go_sem,g0,g5]
   repeat refine ⟨sc,?_⟩
   try exact sf
   obtain ⟨r,d,⟨hr,hd⟩,ht⟩:=c_s_l1Int c [97,32,12353,12435,12449,12534,12354] hc (by decide)
   refine C0 (ht) ?_
   exact ⟨r,d,hd,rfl⟩
 ·simp -implicitDefEqProofs (maxSteps:=1000000) only [x_s_l5Sign,go_sem,g0]
  repeat refine ⟨sc,?_⟩
  try exact sf
  obtain ⟨r,d,hd,ht⟩:=c_s_l2Sign c hc
  refine C0 (ht) ?_
  exact ⟨r,d,hd,rfl⟩
def x_s_l11Who:FnX:=⟨32,[.tmp 2],
  .q [.v 1 0,.F 2]
 (.seq (.q [.f 3 1 10,.l 4 3,.B 5 .eql 4 0]
 (.c 5 (.q [.f 6 1 11,.l 7 6,.B 8 .eql 7 0,.m 9 8,.y 9 (.f 10 1 12),.y 9 (.l 11 10),.y 9 (.B 12 .eql 11 0),.a 13 9 12,.m 14 13,.y 14 (.f 15 1 0),.y 14 (.l 16 15),.y 14 (.B 17 .neq 16 4),.a 18 14 17,.m 2 18]
 .ret)))
 (.q [.f 19 1 10,.l 20 19,.op 21 (.call 120 [0,0,0] [(.t 20),(.i 1),(.i 9)]),.m 22 21,.y 22 (.f 23 1 11),.y 22 (.l 24 23),.y 22 (.c 25 161 [24]),.a 26 22 25,.m 27 26,.y 27 (.f 28 1 12),.y 27 (.l 29 28),.y 27 (.op 30 (.call 120 [0,0,0] [(.t 29),(.i 0),(.i 6)])),.a 31 27 30,.m 2 31]
 .ret))⟩
theorem r_s_l11Who {Te:TE} (c_s_l1In:C_s_l1In Te) (c_s_l1Word:C_s_l1Word Te):C_s_l11Who (RF Te x_s_l11Who):=by
 intro r
 refine X0 x_s_l11Who.eq_1 ?_
 cases g0:(r.Who==0)
 ·refine G1 g0 ?_
  refine C0 (c_s_l1In _ _ _) ?_
  cases g1:win r.Who 1 9
  ·try simp -implicitDefEqProofs (maxSteps:=1000000) only [go_sem,RecV.who,g0,g1]
   repeat refine ⟨sc,?_⟩
   try exact sf
  refine G0 ?_
  refine C0 (c_s_l1Word _) ?_
  cases g2:win r.Seq 0 65535
  ·try simp -implicitDefEqProofs (maxSteps:=1000000) only [go_sem,RecV.who,g0,g1,g2]
   repeat refine ⟨sc,?_⟩
   try exact sf
  refine G0 ?_
  refine .of (c_s_l1In _ _ _) ?_
  try simp -implicitDefEqProofs (maxSteps:=1000000) only [go_sem,RecV.who,g0,g1,g2]
  repeat refine ⟨sc,?_⟩
  try exact sf
 ·refine G1 g0 ?_
  cases g1:(r.Seq==0)
  ·try simp -implicitDefEqProofs (maxSteps:=1000000) only [go_sem,RecV.who,g0,g1]
   repeat refine ⟨sc,?_⟩
   try exact sf
  refine G1 g1 ?_
  cases g2:(r.Code==0)
  ·try simp -implicitDefEqProofs (maxSteps:=1000000) only [go_sem,RecV.who,g0,g1,g2]
   repeat refine ⟨sc,?_⟩
   try exact sf
  try simp -implicitDefEqProofs (maxSteps:=1000000) only [go_sem,RecV.who,g0,g1,g2]
  repeat refine ⟨sc,?_⟩
  try exact sf
def x_s_RecOk:FnX:=⟨48,[.tmp 2],
  .q [.v 1 0,.F 2]
 (.q [.f 6 1 1,.L 7 7 6,.c 8 334 [7],.m 3 8]
 (.q [.f 9 1 8,.l 10 9,.op 11 (.bin .eql (.t 10) (.k (.one (.pv (.string ⟨#[]⟩))))),.m 4 11]
 (.q [.f 12 1 9,.l 13 12,.B 14 .eql 13 0,.m 5 14]
 (.seq (.q [.f 15 1 0,.l 16 15]
 (.block 0 (.q [.B 18 .eql 16 1,.m 17 18]
 (.cond 17 (.reg [.f 19 1 1,.L 20 7 19,.c 21 289 [20],.m 3 21]) (.q [.B 23 .eql 16 2,.m 22 23]
 (.cond 22 (.reg [.f 24 1 8,.l 25 24,.c 26 101 [25],.m 4 26]) (.q [.B 28 .eql 16 3,.m 27 28]
 (.c 27 (.reg [.f 29 1 9,.l 30 29,.op 31 (.call 120 [0,0,0] [(.t 30),(.i 0),(.i 7)]),.m 5 31])))))))))
 (.q [.f 32 1 0,.l 33 32,.op 34 (.call 120 [0,0,0] [(.t 33),(.i 1),(.i 4)]),.m 35 34,.y 35 (.m 36 3),.a 37 35 36,.m 38 37,.y 38 (.m 39 4),.a 40 38 39,.m 41 40,.y 41 (.m 42 5),.a 43 41 42,.m 44 43,.y 44 (.L 45 13 1),.y 44 (.c 46 335 [45]),.a 47 44 46,.m 2 47]
 .ret)))))⟩
theorem r_s_RecOk {Te:TE} (c_s_l11NoRow:C_s_l11NoRow Te) (c_s_RowOk:C_s_RowOk Te) (c_s_NameOk:C_s_NameOk Te) (c_s_l1In:C_s_l1In Te) (c_s_l11Who:C_s_l11Who Te):C_s_RecOk (RF Te x_s_RecOk):=by
 intro r h
 refine run0 ?_
 have hR:=h.1
 have hK:=h.2
 simp -implicitDefEqProofs (maxSteps:=1000000) only [x_s_RecOk,go_sem,bytes_beq]
 repeat refine ⟨sc,?_⟩
 try exact sf
 refine .of (c_s_l11NoRow r.R) ?_
 try simp -implicitDefEqProofs (maxSteps:=1000000) only [go_sem,bytes_beq]
 repeat refine ⟨sc,?_⟩
 try exact sf
 cases gk:win r.Kind 1 4
 ·obtain ⟨k1,k2,k3,k4⟩:=kind_win gk
  refine G3 k1 k2 k3 ?_
  refine .of (c_s_l1In _ _ _) ?_
  try simp -implicitDefEqProofs (maxSteps:=1000000) only [go_sem,gk,RecV.ok,RecV.body,k1,k2,k3,k4]
  repeat refine ⟨sc,?_⟩
  try exact sf
 obtain ⟨kind,R,key,n,who,seq,code⟩:=r
 simp only at gk hR hK
 rcases win_kind gk with rfl | rfl | rfl | rfl
 ·skip
  refine G0 ?_
  refine C0 (c_s_RowOk R hR) ?_
  refine C1 (c_s_l1In _ _ _) gk ?_
  cases g1:R.ok
  ·try simp -implicitDefEqProofs (maxSteps:=1000000) only [go_sem,RecV.ok,RecV.body,g1]
   repeat refine ⟨sc,?_⟩
   try exact sf
  refine G0 ?_
  cases g2:decide (key=⟨#[]⟩)
  ·try simp -implicitDefEqProofs (maxSteps:=1000000) only [go_sem,RecV.ok,RecV.body,g1,g2]
   repeat refine ⟨sc,?_⟩
   try exact sf
  refine G0 ?_
  cases g3:(n==0)
  ·try simp -implicitDefEqProofs (maxSteps:=1000000) only [go_sem,RecV.ok,RecV.body,g1,g2,g3]
   repeat refine ⟨sc,?_⟩
   try exact sf
  refine G0 ?_
  refine .of (c_s_l11Who ⟨1,R,key,n,who,seq,code⟩) ?_
  try simp -implicitDefEqProofs (maxSteps:=1000000) only [go_sem,RecV.ok,RecV.body,g1,g2,g3]
  repeat refine ⟨sc,?_⟩
  try exact sf
 ·skip
  refine G0 ?_
  refine C0 (c_s_NameOk key hK) ?_
  refine C1 (c_s_l1In _ _ _) gk ?_
  cases g1:R.no
  ·try simp -implicitDefEqProofs (maxSteps:=1000000) only [go_sem,RecV.ok,RecV.body,g1]
   repeat refine ⟨sc,?_⟩
   try exact sf
  refine G0 ?_
  cases g2:nameOk key
  ·try simp -implicitDefEqProofs (maxSteps:=1000000) only [go_sem,RecV.ok,RecV.body,g1,g2]
   repeat refine ⟨sc,?_⟩
   try exact sf
  refine G0 ?_
  cases g3:(n==0)
  ·try simp -implicitDefEqProofs (maxSteps:=1000000) only [go_sem,RecV.ok,RecV.body,g1,g2,g3]
   repeat refine ⟨sc,?_⟩
   try exact sf
  refine G0 ?_
  refine .of (c_s_l11Who ⟨2,R,key,n,who,seq,code⟩) ?_
  try simp -implicitDefEqProofs (maxSteps:=1000000) only [go_sem,RecV.ok,RecV.body,g1,g2,g3]
  repeat refine ⟨sc,?_⟩
  try exact sf
 ·skip
  refine G0 ?_
  refine C0 (c_s_l1In _ _ _) ?_
  refine C1 (c_s_l1In _ _ _) gk ?_
  cases g1:R.no
  ·try simp -implicitDefEqProofs (maxSteps:=1000000) only [go_sem,RecV.ok,RecV.body,g1]
   repeat refine ⟨sc,?_⟩
   try exact sf
  refine G0 ?_
  cases g2:decide (key=⟨#[]⟩)
  ·try simp -implicitDefEqProofs (maxSteps:=1000000) only [go_sem,RecV.ok,RecV.body,g1,g2]
   repeat refine ⟨sc,?_⟩
   try exact sf
  refine G0 ?_
  cases g3:win n 0 7
  ·try simp -implicitDefEqProofs (maxSteps:=1000000) only [go_sem,RecV.ok,RecV.body,g1,g2,g3]
   repeat refine ⟨sc,?_⟩
   try exact sf
  refine G0 ?_
  refine .of (c_s_l11Who ⟨3,R,key,n,who,seq,code⟩) ?_
  try simp -implicitDefEqProofs (maxSteps:=1000000) only [go_sem,RecV.ok,RecV.body,g1,g2,g3]
  repeat refine ⟨sc,?_⟩
  try exact sf
 ·skip
  refine G0 ?_
  refine C1 (c_s_l1In _ _ _) gk ?_
  cases g1:R.no
  ·try simp -implicitDefEqProofs (maxSteps:=1000000) only [go_sem,RecV.ok,RecV.body,g1]
   repeat refine ⟨sc,?_⟩
   try exact sf
  refine G0 ?_
  cases g2:decide (key=⟨#[]⟩)
  ·try simp -implicitDefEqProofs (maxSteps:=1000000) only [go_sem,RecV.ok,RecV.body,g1,g2]
   repeat refine ⟨sc,?_⟩
   try exact sf
  refine G0 ?_
  cases g3:(n==0)
  ·try simp -implicitDefEqProofs (maxSteps:=1000000) only [go_sem,RecV.ok,RecV.body,g1,g2,g3]
   repeat refine ⟨sc,?_⟩
   try exact sf
  refine G0 ?_
  refine .of (c_s_l11Who ⟨4,R,key,n,who,seq,code⟩) ?_
  try simp -implicitDefEqProofs (maxSteps:=1000000) only [go_sem,RecV.ok,RecV.body,g1,g2,g3]
  repeat refine ⟨sc,?_⟩
  try exact sf
def x_i_isSet:FnX:=⟨5,[.tmp 2],
  .q [.F 2]
 (.q [.m 3 0,.op 4 (.call 90 [0,0,0] [(.t 3),(.i 0),(.i 5)]),.m 2 4]
 .ret)⟩
theorem r_i_isSet {Te:TE} (c_i_within:C_i_within Te):C_i_isSet (RF Te x_i_isSet):=by
 intro cs
 refine X0 x_i_isSet.eq_1 ?_
 exact D0 (c_i_within _ _ _)
def x_s_l5Cs:FnX:=⟨5,[.tmp 2],
  .q [.F 2]
 (.q [.m 3 0,.op 4 (.call 120 [0,0,0] [(.t 3),(.i 0),(.i 5)]),.m 2 4]
 .ret)⟩
theorem r_s_l5Cs {Te:TE} (c_s_l1In:C_s_l1In Te):C_s_l5Cs (RF Te x_s_l5Cs):=by
 intro cs
 refine X0 x_s_l5Cs.eq_1 ?_
 exact D0 (c_s_l1In _ _ _)
def x_i_signIn:FnX:=⟨42,[.tmp 6,.tmp 7,.tmp 8],
  .q [.i 6 0,.i 7 0,.F 8]
 (.seq (.q [.m 11 0]
 (.block 0 (.q [.B 13 .eql 11 0,.m 12 13]
 (.cond 12 (.q [.m 14 1,.m 15 2,.c 16 267 [14,15],.e 17 16 0,.e 18 16 1,.e 19 16 2,.m 6 17,.m 7 18,.m 8 19]
 .ret) (.q [.B 21 .eql 11 5,.m 20 21]
 (.c 20 (.q [.m 22 1,.m 23 2,.c 24 268 [22,23],.e 25 24 0,.e 26 24 1,.e 27 24 2,.m 6 25,.m 7 26,.m 8 27]
 .ret)))))))
 (.q [.m 29 0,.m 30 1,.m 31 2,.x 32 1 30 31,.l 33 32,.op 34 (.conv (.int .i64) (.t 33)),.c 35 269 [29,34],.m 28 35,.e 36 28 0,.e 37 28 1,.m 9 36,.m 10 37]
 (.q [.m 38 9,.m 39 2,.B 40 .add 39 1,.m 41 10,.m 6 38,.m 7 40,.m 8 41]
 .ret)))⟩
theorem r_i_signIn {Te:TE} (c_i_GetSign:C_i_GetSign Te) (c_i_EucSign:C_i_EucSign Te) (c_i_ByteSign:C_i_ByteSign Te):C_i_signIn (RF Te x_i_signIn):=by
 intro cs b i hb hi
 refine run0 ?_
 cases g0:(cs==0)
 ·have n0:¬ cs=0:=by simpa using g0
  cases g5:(cs==5)
  ·have n5:¬ cs=5:=by simpa using g5
   have e:signIn cs b i=((byteSign cs (byteN b i.toNat:Nat)).1,i + 1,(byteSign cs (byteN b i.toNat:Nat)).2):=by rw [signIn,if_neg n0,if_neg n5]
   have hk:i.toNat < b.length:=by omega
   have eb:b[i.toNat].toNat=byteN b i.toNat:=by
    simp only [byteN,List.getD_eq_getElem?_getD]
    rw [List.getElem?_eq_getElem hk]
    rfl
   have hlt:=byteN_lt b i.toNat
   have w1:IntKind.i64.wrap ((byteN b i.toNat:Nat):Int)=(byteN b i.toNat:Nat):=IntWalk.i64_in _ (by omega)
   have w2:IntKind.i64.wrap (i + 1)=i + 1:=IntWalk.i64_in _ (by omega)
   simp -implicitDefEqProofs (maxSteps:=1000000) only [x_i_signIn,go_sem,g0,g5,List.getElem?_eq_getElem hk,eb,w1]
   repeat refine ⟨sc,?_⟩
   try exact sf
   exact D2 (c_i_ByteSign _ _) w2 e
  ·have n5:cs=5:=eq_of_beq g5
   subst n5
   have e:signIn 5 b i=eucSign b i:=rfl
   simp -implicitDefEqProofs (maxSteps:=1000000) only [x_i_signIn,go_sem]
   repeat refine ⟨sc,?_⟩
   try exact sf
   exact D1 (c_i_EucSign b i hb) e
 ·have n0:cs=0:=eq_of_beq g0
  subst n0
  have e:signIn 0 b i=getSign b i:=rfl
  simp -implicitDefEqProofs (maxSteps:=1000000) only [x_i_signIn,go_sem]
  repeat refine ⟨sc,?_⟩
  try exact sf
  exact D1 (c_i_GetSign b i (by omega)) e
def x_s_l5Get:FnX:=⟨42,[.tmp 6,.tmp 7,.tmp 8],
  .q [.i 6 0,.i 7 0,.F 8]
 (.seq (.q [.m 11 0]
 (.block 0 (.q [.B 13 .eql 11 0,.m 12 13]
 (.cond 12 (.q [.m 14 1,.m 15 2,.c 16 272 [14,15],.e 17 16 0,.e 18 16 1,.e 19 16 2,.m 6 17,.m 7 18,.m 8 19]
 .ret) (.q [.B 21 .eql 11 5,.m 20 21]
 (.c 20 (.q [.m 22 1,.m 23 2,.c 24 273 [22,23],.e 25 24 0,.e 26 24 1,.e 27 24 2,.m 6 25,.m 7 26,.m 8 27]
 .ret)))))))
 (.q [.m 29 0,.m 30 1,.m 31 2,.x 32 1 30 31,.l 33 32,.op 34 (.conv (.int .i64) (.t 33)),.c 35 274 [29,34],.m 28 35,.e 36 28 0,.e 37 28 1,.m 9 36,.m 10 37]
 (.q [.m 38 9,.m 39 2,.B 40 .add 39 1,.m 41 10,.m 6 38,.m 7 40,.m 8 41]
 .ret)))⟩
theorem r_s_l5Get {Te:TE} (c_s_GetSign:C_s_GetSign Te) (c_s_EucSign:C_s_EucSign Te) (c_s_ByteSign:C_s_ByteSign Te):C_s_l5Get (RF Te x_s_l5Get):=by
 intro cs b i hb hi
 refine run0 ?_
 cases g0:(cs==0)
 ·have n0:¬ cs=0:=by simpa using g0
  cases g5:(cs==5)
  ·have n5:¬ cs=5:=by simpa using g5
   have e:signIn cs b i=((byteSign cs (byteN b i.toNat:Nat)).1,i + 1,(byteSign cs (byteN b i.toNat:Nat)).2):=by rw [signIn,if_neg n0,if_neg n5]
   have hk:i.toNat < b.length:=by omega
   have eb:b[i.toNat].toNat=byteN b i.toNat:=by
    simp only [byteN,List.getD_eq_getElem?_getD]
    rw [List.getElem?_eq_getElem hk]
    rfl
   have hlt:=byteN_lt b i.toNat
   have w1:IntKind.i64.wrap ((byteN b i.toNat:Nat):Int)=(byteN b i.toNat:Nat):=IntWalk.i64_in _ (by omega)
   have w2:IntKind.i64.wrap (i + 1)=i + 1:=IntWalk.i64_in _ (by omega)
   simp -implicitDefEqProofs (maxSteps:=1000000) only [x_s_l5Get,go_sem,g0,g5,List.getElem?_eq_getElem hk,eb,w1]
   repeat refine ⟨sc,?_⟩
   try exact sf
   exact D2 (c_s_ByteSign _ _) w2 e
  ·have n5:cs=5:=eq_of_beq g5
   subst n5
   have e:signIn 5 b i=eucSign b i:=rfl
   simp -implicitDefEqProofs (maxSteps:=1000000) only [x_s_l5Get,go_sem]
   repeat refine ⟨sc,?_⟩
   try exact sf
   exact D1 (c_s_EucSign b i hb) e
 ·have n0:cs=0:=eq_of_beq g0
  subst n0
  have e:signIn 0 b i=getSign b i:=rfl
  simp -implicitDefEqProofs (maxSteps:=1000000) only [x_s_l5Get,go_sem]
  repeat refine ⟨sc,?_⟩
  try exact sf
  exact D1 (c_s_GetSign b i (by omega)) e
def x_i_Decode:FnX:=⟨35,[.tmp 4,.tmp 5],
  .q [.op 4 (.mv (.k (.one (.pv (.string ⟨#[]⟩))))),.F 5]
 (.seq (.q [.m 11 0,.c 12 184 [11],.N 13 12]
 (.c 13 (.q [.op 4 (.mv (.k (.one (.pv (.string ⟨#[]⟩))))),.F 5]
 .ret)))
 (.q [.op 14 (.bslice 1 []),.m 6 14]
 (.seq (.q [.i 7 0]
 (.block 0 (.loop [0,1,6,7] (.seq (.q [.m 15 7,.m 16 1,.n 17 16,.b 18 .lss 15 17]
 (.cond 18 .skip (.exit 0)))
 (.block 1 (.q [.m 20 0,.m 21 1,.m 22 7,.c 23 185 [20,21,22],.m 19 23,.e 24 19 0,.e 25 19 1,.e 26 19 2,.m 8 24,.m 9 25,.m 10 26]
 (.seq (.q [.m 27 10,.N 28 27]
 (.c 28 (.q [.op 4 (.mv (.k (.one (.pv (.string ⟨#[]⟩))))),.F 5]
 .ret)))
 (.q [.m 29 6,.m 30 8,.c 31 186 [29,30],.m 6 31]
 (.reg [.m 32 9,.m 7 32])))))))))
 (.norm [6] (.q [.m 33 6,.op 34 (.conv .b2s (.t 33)),.m 4 34,.T 5]
 .ret)))))⟩
theorem r_i_Decode {Te:TE} (c_i_isSet:C_i_isSet Te) (c_i_signIn:C_i_signIn Te) (c_i_PutSign:C_i_PutSign Te):C_i_Decode (RF Te x_i_Decode):=by
 intro cs b hb
 cases g:win cs 0 5
 ·have e:decode cs b=(⟨#[]⟩,false):=by rw [decode,g]; rfl
  refine X0 x_i_Decode.eq_1 ?_
  exact D2 (c_i_isSet _) g e
 ·have e:decode cs b=decGo cs b b.length 0 []:=by rw [decode,g]; rfl
  rw [e]
  generalize hD:decGo cs b b.length 0 []=D
  refine X0 x_i_Decode.eq_1 ?_
  refine C1 (c_i_isSet _) g ?_
  refine loop_of (σ:=Nat×Nat×List UInt8) (fun x=>⟨[(0,.one (.pv (.int .i64 cs))),(1,.one (.ro 1 (b.map uR))),(6,.one (.rf 37 0 [] 1 0 x.2.2.length)),(7,.one (.pv (.int .i64 x.2.1)))],[],[(0,[iT cs]),(1,[slT false 1 uR b]),(37,[slT true 1 uR x.2.2])]⟩) (fun x=>x.2.1≤b.length∧b.length≤x.1 + x.2.1∧x.2.2.length≤4 * x.2.1∧decGo cs b x.1 x.2.1 x.2.2=D) (fun x=>b.length - x.2.1) (b.length,0,[]) ?_ ⟨Nat.zero_le _,Nat.le_refl _,Nat.zero_le _,hD⟩ ?_
  ·simp -implicitDefEqProofs (maxSteps:=1000000) only [go_sem]
   try rfl
  ·rintro ⟨fu,i,out⟩ ⟨hi,hf,ho,hd⟩
   simp only at hi hf ho hd
   cases q:decide ((i:Int) < (b.length:Int))
   ·have hq:¬ (i:Int) < (b.length:Int):=by simpa using q
    rw [dec_end hq] at hd
    subst hd
    refine G1 q ?_
    refine ⟨areBytes_uR out,?_⟩
    rw [bytesOf_uD]
    try rfl
   ·have hq:(i:Int) < (b.length:Int):=by simpa using q
    obtain ⟨f,rfl⟩:∃ f,fu=f + 1:=⟨fu - 1,by omega⟩
    have hs:=c_i_signIn cs b i (by omega) ⟨by omega,hq⟩
    cases g2:(signIn cs b i).2.2
    ·rw [dec_bad hq g2] at hd
     subst hd
     refine G1 q ?_
     exact D1 (hs) g2
    ·rw [dec_step hq g2] at hd
     have hn:=signIn_next ⟨by omega,hq⟩ g2
     generalize signIn cs b i=r at hs g2 hd hn
     obtain ⟨n,nx,ok⟩:=r
     simp only at hs g2 hd hn
     subst g2
     obtain ⟨j,rfl⟩:∃ j:Nat,nx=j:=⟨nx.toNat,by omega⟩
     have hl:=putSign_len out n
     refine G1 q ?_
     refine C0 (hs) ?_
     refine C0 (c_i_PutSign out n (by omega)) ?_
     exact ⟨(f,j,putSign out n),rfl,⟨by simp only; omega,by simp only; omega,by simp only; omega,hd⟩,by simp only; omega⟩
def x_s_Signs:FnX:=⟨33,[.tmp 2,.tmp 3],
  .q [.op 2 (.mv (.k (.one (.nils 1)))),.F 3]
 (.q [.op 10 (.bslice 1 []),.m 4 10]
 (.q [.m 11 0,.op 12 (.conv .s2b (.t 11)),.m 5 12]
 (.seq (.q [.i 6 0]
 (.block 0 (.loop [4,5,6] (.seq (.q [.m 13 6,.m 14 5,.n 15 14,.b 16 .lss 13 15]
 (.cond 16 .skip (.exit 0)))
 (.block 1 (.q [.m 18 5,.m 19 6,.c 20 272 [18,19],.m 17 20,.e 21 17 0,.e 22 17 1,.e 23 17 2,.m 7 21,.m 8 22,.m 9 23]
 (.seq (.q [.m 24 9,.N 25 24]
 (.c 25 (.q [.op 26 (.bslice 1 []),.m 2 26,.F 3]
 .ret)))
 (.q [.m 27 4,.m 28 7,.op 29 (.bslice 1 [(.t 28)]),.op 30 (.app 1 8 (.t 27) (.t 29)),.m 4 30]
 (.reg [.m 31 8,.m 6 31])))))))))
 (.norm [4] (.q [.m 32 4,.m 2 32,.T 3]
 .ret)))))⟩
theorem r_s_Signs {Te:TE} (c_s_GetSign:C_s_GetSign Te):C_s_Signs (RF Te x_s_Signs):=by
 intro s hs
 have hsz:=sizeL s
 refine X0 x_s_Signs.eq_1 ?_
 generalize eB:s.data.toList=B at hsz
 have eS:signsOf s=if Lib.validD B=true then (signs B,true) else ([],false):=by rw [signsOf,eB]
 refine loop_of (σ:=Nat×List Int) (fun x=>⟨[(4,.one (.rf 34 0 [] 1 0 x.2.length)),(5,.one (.rf 35 0 [] 1 0 B.length)),(6,.one (.pv (.int .i64 x.1)))],[],[(0,[sT s]),(34,[slT true 1 iR x.2]),(35,[slT true 1 uR B])]⟩) (fun x=>x.1≤B.length∧x.2.length≤x.1∧x.2++signs (B.drop x.1)=signs B∧Lib.validD (B.drop x.1)=Lib.validD B) (fun x=>B.length - x.1) (0,[]) ?_ ⟨Nat.zero_le _,Nat.le_refl _,rfl,rfl⟩ ?_
 ·simp -implicitDefEqProofs (maxSteps:=1000000) only [go_sem,ofBytes,byteT,eB]
  try rfl
 ·rintro ⟨p,acc⟩ ⟨hp,hl,ha,hv⟩
  simp only at hp hl ha hv
  cases q:decide ((p:Int) < (B.length:Int))
  ·have hd:B.drop p=[]:=List.drop_eq_nil_of_le (by simp only [decide_eq_false_iff_not] at q; omega)
   rw [hd,signs_nil,List.append_nil] at ha
   rw [hd,Lib.validD_nil] at hv
   rw [← hv,if_pos rfl,← ha] at eS
   have ea:List.take acc.length (List.map iR acc)=List.map iR acc:=take_map iR acc
   exact F3 q eS ea
  ·have k1:p < B.length:=by simp only [decide_eq_true_eq] at q; omega
   have hne:B.drop p≠[]:=by
    intro e
    have:=congrArg List.length e
    simp only [List.length_drop,List.length_nil] at this
    omega
   have hw:=Lib.decodeL_width (B.drop p)
   have hc:=decodeL_bound (B.drop p)
   have hle:=Lib.decodeL_le _ hne
   rw [List.length_drop] at hle
   rw [signs_step hne,List.drop_drop] at ha
   rw [Lib.validD_step _ hne,List.drop_drop] at hv
   have eg:getSign B p=match signAt (B.drop p) with | some d=>((d.1:Int),(p:Int) + (d.2:Nat),true) | none=>(0,0,false):=by
    rw [getSign,if_pos (by omega)]; rfl
   refine G1 q ?_
   refine C0 (c_s_GetSign B p (by omega)) ?_
   by_cases hb:(Lib.decodeL (B.drop p)).1=65533∧(Lib.decodeL (B.drop p)).2=1
   ·rw [signAt,if_pos hb] at eg
    rw [if_pos hb] at hv
    rw [← hv] at eS
    exact F2 eg eS
   ·rw [signAt,if_neg hb] at eg
    rw [if_neg hb] at hv
    generalize Lib.decodeL (B.drop p)=d at hw hc hle ha hv eg
    have ea:List.take acc.length (List.map iR acc)=List.map iR acc:=take_map iR acc
    have eb:List.map iR acc++[[Tr.pv (Value.int .i64 ((d.1:Nat):Int))]]=List.map iR (acc++[((d.1:Nat):Int)]):=by simp
    refine G3 eg ea eb ?_
    refine ⟨(p + d.2,acc++[((d.1:Nat):Int)]),?_,⟨by omega,by simp only [List.length_append,List.length_cons,List.length_nil]; omega,by rw [← ha]; simp,hv⟩,by simp only; omega⟩
    simp only [List.length_append]
    rfl
def x_i_putIn:FnX:=⟨37,[.tmp 6,.tmp 7],
  .q [.op 6 (.mv (.k (.one (.nils 1)))),.F 7]
 (.seq (.q [.m 10 0]
 (.block 0 (.q [.B 12 .eql 10 0,.m 11 12]
 (.cond 11 (.q [.m 13 1,.m 14 2,.c 15 186 [13,14],.m 6 15,.T 7]
 .ret) (.q [.B 17 .eql 10 5,.m 16 17]
 (.c 16 (.q [.m 18 1,.m 19 2,.c 20 370 [18,19],.e 21 20 0,.e 22 20 1,.m 6 21,.m 7 22]
 .ret)))))))
 (.q [.m 24 0,.m 25 2,.c 26 371 [24,25],.m 23 26,.e 27 23 0,.e 28 23 1,.m 8 27,.m 9 28]
 (.seq (.q [.m 29 9,.N 30 29]
 (.c 30 (.q [.m 31 1,.m 6 31,.F 7]
 .ret)))
 (.q [.m 32 1,.m 33 8,.op 34 (.conv (.int .u8) (.t 33)),.op 35 (.bslice 1 [(.t 34)]),.op 36 (.app 1 1 (.t 32) (.t 35)),.m 6 36,.T 7]
 .ret))))⟩
theorem r_i_putIn {Te:TE} (c_i_PutSign:C_i_PutSign Te) (c_i_PutEuc:C_i_PutEuc Te) (c_i_SignByte:C_i_SignByte Te):C_i_putIn (RF Te x_i_putIn):=by
 intro cs b n hb
 refine X0 x_i_putIn.eq_1 ?_
 cases h:(cs==0)
 ·cases h5:(cs==5)
  ·have el:putLeft cs b n = .no ():=by rw [putLeft,h,h5]; rfl
   refine G2 h h5 ?_
   refine C0 (c_i_SignByte _ _) ?_
   cases g:(signByte cs n).2
   ·have e:=putIn_no h h5 g b
    exact F3 g e el
   ·have e:=putIn_yes h h5 g b
    try simp -implicitDefEqProofs (maxSteps:=1000000) only [go_sem,g,mkU_wrap,app1B,take1B,e,el,take_rows]
    repeat refine ⟨sc,?_⟩
    try exact sf
    try rfl
  ·have el:putLeft cs b n=slT true 1 uR b:=by rw [putLeft,h,h5]; rfl
   have e:=putIn_euc h h5 b n
   refine G2 h h5 ?_
   exact D2 (c_i_PutEuc b n hb) e el
 ·have el:putLeft cs b n=slT true 1 uR b:=by rw [putLeft,h]; rfl
  have e:=putIn_utf h b n
  refine G1 h ?_
  exact D2 (c_i_PutSign b n hb) e el
def x_s_l5Put:FnX:=⟨43,[.tmp 6,.tmp 7],
  .q [.op 6 (.mv (.k (.one (.nils 1)))),.F 7]
 (.seq (.q [.m 10 0]
 (.block 0 (.q [.B 12 .eql 10 0,.m 11 12]
 (.cond 11 (.q [.m 13 1,.m 14 2,.c 15 189 [13,14],.m 16 2,.c 17 275 [16],.m 6 15,.m 7 17]
 .ret) (.q [.B 19 .eql 10 5,.m 18 19]
 (.c 18 (.q [.m 20 1,.m 21 2,.c 22 321 [20,21],.e 23 22 0,.e 24 22 1,.m 6 23,.m 7 24]
 .ret)))))))
 (.q [.m 26 0,.m 27 2,.c 28 322 [26,27],.m 25 28,.e 29 25 0,.e 30 25 1,.m 8 29,.m 9 30]
 (.seq (.q [.m 31 9,.N 32 31]
 (.c 32 (.q [.op 33 (.bslice 1 []),.m 34 1,.op 35 (.app 1 1 (.t 33) (.t 34)),.m 6 35,.F 7]
 .ret)))
 (.q [.op 36 (.bslice 1 []),.m 37 1,.op 38 (.app 1 1 (.t 36) (.t 37)),.m 39 8,.op 40 (.conv (.int .u8) (.t 39)),.op 41 (.bslice 1 [(.t 40)]),.op 42 (.app 1 1 (.t 38) (.t 41)),.m 6 42,.T 7]
 .ret))))⟩
theorem r_s_l5Put {Te:TE} (c_s_PutSign:C_s_PutSign Te) (c_s_SignOk:C_s_SignOk Te) (c_s_PutEuc:C_s_PutEuc Te) (c_s_SignByte:C_s_SignByte Te):C_s_l5Put (RF Te x_s_l5Put):=by
 intro cs b n hb hn
 refine X0 x_s_l5Put.eq_1 ?_
 cases h:(cs==0)
 ·cases h5:(cs==5)
  ·refine G2 h h5 ?_
   refine C0 (c_s_SignByte _ _) ?_
   cases g:(signByte cs n).2
   ·have e:=putIn_no h h5 g b
    exact F2 g e
   ·have e:=putIn_yes h h5 g b
    try simp -implicitDefEqProofs (maxSteps:=1000000) only [go_sem,g,mkU_wrap,app1B,take1B,e,take_rows]
    repeat refine ⟨sc,?_⟩
    try exact sf
    try rfl
  ·have e:=putIn_euc h h5 b n
   refine G2 h h5 ?_
   exact D1 (c_s_PutEuc b n hb) e
 ·have e:=putIn_utf h b n
  refine G1 h ?_
  refine C0 (c_s_PutSign b n hb) ?_
  exact D2 (c_s_SignOk n) hn e
def x_s_BackRow:FnX:=⟨24,[.cell 2 (some 7)],
  .q [.v 1 0,.op 2 (.alloc [.e,.i 0,.nils 1,.i 0,.nils 1,.i 0,.F])]
 (.q [.L 4 7 1,.c 5 288 [4],.op 3 (.alloc [.e,.i 0,.nils 1,.i 0,.nils 1,.i 0,.F]),.s 100001 7 3 5]
 (.seq (.q [.L 6 7 1,.c 7 289 [6],.N 8 7,.m 9 8,.z 9 (.L 10 7 1),.z 9 (.c 11 196 [10]),.z 9 (.N 12 11),.r 13 9 12]
 (.c 13 (.q [.L 14 7 3,.s 100002 7 2 14]
 .ret)))
 (.seq (.q [.L 15 7 1,.c 16 291 [15]]
 (.c 16 (.q [.f 17 1 0,.l 18 17,.f 19 3 1,.L 20 2 19,.op 21 (.build [.e,.i 0,.nils 1,.i 0,.nils 1,.i 0,.F] [(0,1,(.t 18)),(1,2,(.t 20)),(5,1,(.i 1))]),.s 100003 7 2 21]
 .ret)))
 (.q [.f 22 3 6,⟨none,none,100004,.store 1 (.t 22) .T⟩]
 (.q [.L 23 7 3,.s 100005 7 2 23]
 .ret)))))⟩
theorem r_s_BackRow {Te:TE} (c_s_l9Copy:C_s_l9Copy Te) (c_s_RowOk:C_s_RowOk Te) (c_s_l9New:C_s_l9New Te) (c_s_l9Old:C_s_l9Old Te):C_s_BackRow (RF Te x_s_BackRow):=by
 intro r h
 have hL:=h.len (by decide)
 refine X0 x_s_BackRow.eq_1 ?_
 refine C0 (c_s_l9Copy r hL) ?_
 refine C0 (c_s_RowOk r (h.mono (by decide))) ?_
 cases g1:r.ok
 ·have e:r.back=r:=by rw [RowV.back,g1]; rfl
  exact F1 e
 have h13:=rowOk_13 g1
 refine G0 ?_
 refine C0 (c_s_l9New r h13) ?_
 by_cases g2:r.Has=1
 ·have e:r.back=r:=by rw [RowV.back,g1,g2]; rfl
  have g5:decide (r.Has≠1)=false:=decide_eq_false (by simpa using g2)
  exact F2 g5 e
 have g5:decide (r.Has≠1)=true:=decide_eq_true g2
 refine G1 g5 ?_
 refine C0 (c_s_l9Old r h13) ?_
 by_cases g3:r.Has=2
 ·have e:r.back=⟨r.Key,r.Old,r.New,r.Has,true⟩:=by rw [RowV.back,g1,g3]; rfl
  have g6:decide (r.Has≠2)=false:=decide_eq_false (by simpa using g3)
  exact F2 g6 e
 ·have g4:r.Has=3:=by omega
  have e:r.back=⟨r.Key,r.Old,⟨0,[]⟩,1,false⟩:=by rw [RowV.back,g1,g4]; rfl
  have g6:decide (r.Has≠2)=true:=decide_eq_true g3
  exact F2 g6 e
def x_i_turnedRow:FnX:=⟨16,[.cell 4 (some 7)],
  .q [.v 3 1,.op 4 (.alloc [.e,.i 0,.nils 1,.i 0,.nils 1,.i 0,.F])]
 (.seq (.q [.m 5 0]
 (.block 0 (.q [.B 7 .eql 5 4,.m 6 7]
 (.cond 6 (.q [.L 8 7 3,.c 9 170 [8],.s 100001 7 4 9]
 .ret) (.q [.B 11 .eql 5 6,.m 10 11]
 (.c 10 (.q [.L 12 7 3,.c 13 171 [12],.s 100002 7 4 13]
 .ret)))))))
 (.q [.L 14 7 3,.c 15 172 [14],.s 100003 7 4 15]
 .ret))⟩
theorem r_i_turnedRow {Te:TE} (c_i_CutRow:C_i_CutRow Te) (c_i_BackRow:C_i_BackRow Te) (c_i_FillRow:C_i_FillRow Te):C_i_turnedRow (RF Te x_i_turnedRow):=by
 intro p r h
 refine run0 ?_
 simp -implicitDefEqProofs (maxSteps:=1000000) only [x_i_turnedRow,go_sem,turned]
 repeat refine ⟨sc,?_⟩
 try exact sf
 cases g4:(p==4)
 ·cases g6:(p==6)
  ·refine G2 g4 g6 ?_
   exact D0 (c_i_FillRow r h)
  ·refine G2 g4 g6 ?_
   exact D0 (c_i_BackRow r h)
 ·refine G1 g4 ?_
  exact D0 (c_i_CutRow r h)
def x_s_l15Turn:FnX:=⟨17,[.cell 4 (some 7)],
  .q [.v 3 1,.op 4 (.alloc [.e,.i 0,.nils 1,.i 0,.nils 1,.i 0,.F])]
 (.seq (.q [.m 5 0]
 (.block 0 (.seq (.q [.B 7 .eql 5 2,.m 6 7]
 (.cond 6 .skip (.reg [.B 8 .eql 5 3,.m 6 8])))
 (.cond 6 (.q [.L 9 7 3,.c 10 201 [9],.s 100001 7 4 10]
 .ret) (.q [.B 12 .eql 5 4,.m 11 12]
 (.c 11 (.q [.L 13 7 3,.c 14 202 [13],.s 100002 7 4 14]
 .ret)))))))
 (.q [.L 15 7 3,.c 16 203 [15],.s 100003 7 4 16]
 .ret))⟩
theorem r_s_l15Turn {Te:TE} (c_s_FillRow:C_s_FillRow Te) (c_s_CutRow:C_s_CutRow Te) (c_s_BackRow:C_s_BackRow Te):C_s_l15Turn (RF Te x_s_l15Turn):=by
 intro p r h hp
 refine run0 ?_
 rcases hp with rfl | rfl | rfl | rfl
 all_goals
  simp -implicitDefEqProofs (maxSteps:=1000000) only [x_s_l15Turn,go_sem,turned]
  repeat refine ⟨sc,?_⟩
  try exact sf
 ·exact D0 (c_s_FillRow r h)
 ·exact D0 (c_s_FillRow r h)
 ·exact D0 (c_s_CutRow r h)
 ·exact D0 (c_s_BackRow r h)
def x_s_CellOf:FnX:=⟨25,[.cell 4 (some 2),.tmp 5],
  .q [.op 4 (.alloc [.i 0,.nils 1]),.F 5]
 (.q [.m 9 0,.m 10 1,.c 11 182 [9,10],.m 8 11,.e 12 8 0,.e 13 8 1,.m 6 12,.m 7 13]
 (.seq (.q [.m 14 7,.N 15 14,.m 16 15,.z 16 (.m 17 6),.z 16 (.n 18 17),.z 16 (.B 19 .gtr 18 20),.r 20 16 19]
 (.c 20 (.q [.op 21 (.build [.i 0,.nils 1] []),.s 100001 2 4 21,.F 5]
 .ret)))
 (.q [.m 22 0,.m 23 6,.op 24 (.build [.i 0,.nils 1] [(0,1,(.t 22)),(1,1,(.t 23))]),.s 100002 2 4 24,.T 5]
 .ret)))⟩
theorem r_s_CellOf {Te:TE} (c_s_Encode:C_s_Encode Te):C_s_CellOf (RF Te x_s_CellOf):=by
 intro tag s hs
 have hl:=encode_len tag s
 refine X0 x_s_CellOf.eq_1 ?_
 refine C0 (c_s_Encode tag s hs) ?_
 cases g:(encode tag s).2
 ·have e:=cellOf_no g
  exact F2 g e
 cases g2:decide (((encode tag s).1.length:Int)≤20)
 ·have e:=cellOf_big g2
  have g3:decide (((encode tag s).1.length:Int) > 20)=true:=by simp only [decide_eq_false_iff_not] at g2; exact decide_eq_true (by omega)
  exact F3 g g3 e
 ·have e:=cellOf_yes g g2
  have g3:decide (((encode tag s).1.length:Int) > 20)=false:=by simp only [decide_eq_true_eq] at g2; exact decide_eq_false (by omega)
  exact F3 g g3 e
def x_i_Turn:FnX:=⟨29,[.cell 4 (some 2),.tmp 5],
  .q [.v 2 0,.op 4 (.alloc [.i 0,.nils 1]),.F 5]
 (.q [.L 10 2 2,.c 11 177 [10],.m 9 11,.e 12 9 0,.e 13 9 1,.m 6 12,.m 7 13]
 (.seq (.q [.m 14 7,.N 15 14]
 (.c 15 (.q [.L 16 2 2,.c 17 304 [16],.s 100001 2 4 17,.F 5]
 .ret)))
 (.q [.m 19 1,.m 20 6,.c 21 251 [19,20],.m 18 21,.e 22 18 0,.e 23 18 1,.op 8 (.alloc [.i 0,.nils 1]),.s 100002 2 8 22,.m 7 23]
 (.seq (.q [.m 24 7,.N 25 24]
 (.c 25 (.q [.L 26 2 2,.c 27 304 [26],.s 100003 2 4 27,.F 5]
 .ret)))
 (.q [.L 28 2 8,.s 100004 2 4 28,.T 5]
 .ret)))))⟩
theorem r_i_Turn {Te:TE} (c_i_CellText:C_i_CellText Te) (c_i_copyCell:C_i_copyCell Te) (c_i_CellOf:C_i_CellOf Te):C_i_Turn (RF Te x_i_Turn):=by
 intro c tag hc hs
 refine X0 x_i_Turn.eq_1 ?_
 refine C0 (c_i_CellText c) ?_
 cases g:c.text.2
 ·have e:=turn_no (tag:=tag) g
  refine G1 g ?_
  exact D1 (c_i_copyCell c hc) e
 refine G1 g ?_
 refine C0 (c_i_CellOf tag c.text.1 hs) ?_
 cases g2:(cellOf tag c.text.1).2
 ·have e:=turn_big (c:=c) g2
  refine G1 g2 ?_
  exact D1 (c_i_copyCell c hc) e
 ·have e:=turn_yes g g2
  exact F2 g2 e
def x_s_Turn:FnX:=⟨30,[.cell 4 (some 2),.tmp 5],
  .q [.v 2 0,.op 4 (.alloc [.i 0,.nils 1]),.F 5]
 (.q [.L 11 2 2,.c 12 197 [11],.m 10 12,.e 13 10 0,.e 14 10 1,.m 6 13,.m 7 14]
 (.q [.m 16 1,.m 17 6,.c 18 200 [16,17],.m 15 18,.e 19 15 0,.e 20 15 1,.op 8 (.alloc [.i 0,.nils 1]),.s 100001 2 8 19,.m 9 20]
 (.seq (.q [.m 21 7,.N 22 21,.m 23 22,.z 23 (.m 24 9),.z 23 (.N 25 24),.r 26 23 25]
 (.c 26 (.q [.L 27 2 2,.c 28 338 [27],.s 100002 2 4 28,.F 5]
 .ret)))
 (.q [.L 29 2 8,.s 100003 2 4 29,.T 5]
 .ret))))⟩
theorem r_s_Turn {Te:TE} (c_s_CellText:C_s_CellText Te) (c_s_CellOf:C_s_CellOf Te) (c_s_l8Copy:C_s_l8Copy Te):C_s_Turn (RF Te x_s_Turn):=by
 intro c tag hc hs
 refine X0 x_s_Turn.eq_1 ?_
 refine C0 (c_s_CellText c) ?_
 refine C0 (c_s_CellOf tag c.text.1 hs) ?_
 cases g:c.text.2
 ·have e:=turn_no (tag:=tag) g
  refine G1 g ?_
  exact D1 (c_s_l8Copy c hc) e
 cases g2:(cellOf tag c.text.1).2
 ·have e:=turn_big (c:=c) g2
  refine G2 g g2 ?_
  exact D1 (c_s_l8Copy c hc) e
 ·have e:=turn_yes g g2
  exact F3 g g2 e
def x_i_Walks:FnX:=⟨17,[.tmp 2],
  .q [.F 2]
 (.q [.m 3 0,.B 4 .eql 3 2,.m 5 4,.z 5 (.m 6 0),.z 5 (.B 7 .eql 6 3),.r 8 5 7,.m 9 8,.z 9 (.m 10 0),.z 9 (.B 11 .eql 10 4),.r 12 9 11,.m 13 12,.z 13 (.m 14 0),.z 13 (.B 15 .eql 14 6),.r 16 13 15,.m 2 16]
 .ret)⟩
theorem r_i_Walks {Te:TE}:C_i_Walks (RF Te x_i_Walks):=by
 intro p
 refine run0 ?_
 cases g1:(p==2)
 ·cases g2:(p==3)
  ·cases g3:(p==4) <;> simp -implicitDefEqProofs (maxSteps:=1000000) only [x_i_Walks,go_sem,g1,g2,g3,walks]
  ·simp -implicitDefEqProofs (maxSteps:=1000000) only [x_i_Walks,go_sem,g1,g2,walks]
 ·simp -implicitDefEqProofs (maxSteps:=1000000) only [x_i_Walks,go_sem,g1,walks]
def x_s_Walks:FnX:=⟨9,[.tmp 2],
  .q [.F 2]
 (.q [.m 3 0,.op 4 (.call 120 [0,0,0] [(.t 3),(.i 2),(.i 4)]),.m 5 4,.z 5 (.m 6 0),.z 5 (.B 7 .eql 6 6),.r 8 5 7,.m 2 8]
 .ret)⟩
theorem r_s_Walks {Te:TE} (c_s_l1In:C_s_l1In Te):C_s_Walks (RF Te x_s_Walks):=by
 intro p
 refine run0 ?_
 have key:walks p=(win p 2 4||(p==6)):=by
  simp only [walks,win]
  by_cases h2:p=2
  ·subst h2; rfl
  by_cases h3:p=3
  ·subst h3; rfl
  by_cases h4:p=4
  ·subst h4; rfl
  have:(decide (p≥2)&&decide (p≤4))=false:=by simp; omega
  simp [h2,h3,h4,this]
 simp -implicitDefEqProofs (maxSteps:=1000000) only [x_s_Walks,go_sem,key]
 refine .of (c_s_l1In _ _ _) ?_
 cases g1:win p 2 4 <;> simp -implicitDefEqProofs (maxSteps:=1000000) only [go_sem]
end Go.X

