/- Texts: CVe_2 CVj_4 CVj_3 CVa CVu CVg CVla CB CK CVc_2. -/
import Derived.Test.YtlfciaccddhhoaaGreatDoorC04
set_option linter.unusedVariables false
set_option linter.unusedSimpArgs false
namespace Go.X
set_option maxRecDepth 100000
set_option maxHeartbeats 8000000
def x_i_RowOk:FnX:=⟨89,[.tmp 2],
  .q [.v 1 0,.F 2]
 (.seq (.q [.f 9 1 0,.l 10 9,.c 11 34 [10],.N 12 11,.m 13 12,.z 13 (.f 14 1 5),.z 13 (.l 15 14),.z 13 (.op 16 (.call 77 [0,0,0] [(.t 15),(.i 1),(.i 3)])),.z 13 (.N 17 16),.r 18 13 17]
 (.c 18 (.q [.F 2]
 .ret)))
 (.q [.f 20 1 1,.L 21 2 20,.c 22 220 [21],.m 19 22,.e 23 19 0,.e 24 19 1,.m 3 23,.m 4 24]
 (.q [.f 26 1 3,.L 27 2 26,.c 28 220 [27],.m 25 28,.e 29 25 0,.e 30 25 1,.m 5 29,.m 6 30]
 (.q [.f 31 1 1,.L 32 2 31,.op 33 (.build [.i 0,.nils 1] []),.c 34 101 [32,33],.m 7 34]
 (.seq (.q [.f 35 1 5,.l 36 35,.B 37 .neq 36 2]
 (.c 37 (.reg [.f 38 1 1,.L 39 2 38,.c 40 213 [39],.m 41 40,.y 41 (.f 42 1 1),.y 41 (.f 43 42 0),.y 41 (.l 44 43),.y 41 (.B 45 .neq 44 0),.a 46 41 45,.m 47 46,.y 47 (.m 48 4),.y 47 (.m 49 48),.z 49 (.f 50 1 6),.z 49 (.l 51 50),.z 49 (.m 52 51),.y 52 (.f 53 1 5),.y 52 (.l 54 53),.y 52 (.B 55 .eql 54 1),.z 49 (.a 56 52 55),.y 47 (.r 57 49 56),.a 58 47 57,.m 7 58])))
 (.q [.f 59 1 3,.L 60 2 59,.op 61 (.build [.i 0,.nils 1] []),.c 62 101 [60,61],.m 8 62]
 (.seq (.q [.f 63 1 5,.l 64 63,.B 65 .neq 64 1]
 (.c 65 (.reg [.f 66 1 3,.f 67 66 0,.l 68 67,.B 69 .eql 68 0,.m 70 69,.y 70 (.m 71 6),.a 72 70 71,.m 8 72])))
 (.q [.m 73 7,.m 74 73,.y 74 (.m 75 8),.a 76 74 75,.m 77 76,.y 77 (.f 78 1 5),.y 77 (.l 79 78),.y 77 (.B 80 .neq 79 3),.y 77 (.m 81 80),.z 81 (.f 82 1 1),.z 81 (.L 83 2 82),.z 81 (.f 84 1 3),.z 81 (.L 85 2 84),.z 81 (.c 86 221 [83,85]),.y 77 (.r 87 81 86),.a 88 77 87,.m 2 88]
 .ret))))))))⟩
theorem r_i_RowOk {Te:TE} (c_i_NameOk:C_i_NameOk Te) (c_i_within:C_i_within Te) (c_i_CellText:C_i_CellText Te) (c_i_sameCell:C_i_sameCell Te) (c_i_CellOk:C_i_CellOk Te) (c_i_SameText:C_i_SameText Te):C_i_RowOk (RF Te x_i_RowOk):=by
 intro r h
 obtain ⟨hk,_⟩:=h
 refine X0 x_i_RowOk.eq_1 ?_
 refine C0 (c_i_NameOk r.Key hk) ?_
 cases g1:nameOk r.Key
 ·have e:=rowOk_name (r:=r) g1
  exact F1 e
 refine G0 ?_
 refine C0 (c_i_within _ _ _) ?_
 cases g2:win r.Has 1 3
 ·have e:=rowOk_has (r:=r) g2
  exact F1 e
 have h3:=win13 g2
 obtain ⟨key,old,new,has,aside⟩:=r
 simp only at h3 g1 hk
 clear g2
 rcases h3 with rfl | rfl | rfl
 ·skip
  have e:=rowOk_1 (o:=old) (n:=new) (a:=aside) g1
  refine G0 ?_
  refine C0 (c_i_CellText old) ?_
  refine C0 (c_i_CellText new) ?_
  refine .of (c_i_sameCell old ⟨0,[]⟩) ?_
  try simp -implicitDefEqProofs (maxSteps:=1000000) only [go_sem,CellV.no]
  repeat refine ⟨sc,?_⟩
  try exact sf
  refine C0 (c_i_CellOk old) ?_
  have fin0:∀ z,z=false→True:=fun _ _=>trivial
  cases o1:old.ok
  ·refine G1 o1 ?_
   refine .of (c_i_sameCell new ⟨0,[]⟩) ?_
   try simp -implicitDefEqProofs (maxSteps:=1000000) only [go_sem,CellV.no,e,o1]
   repeat refine ⟨sc,?_⟩
   try exact sf
  ·cases o2:(old.Tag != 0)
   ·refine G2 o1 o2 ?_
    refine .of (c_i_sameCell new ⟨0,[]⟩) ?_
    try simp -implicitDefEqProofs (maxSteps:=1000000) only [go_sem,CellV.no,e,o1,o2]
    repeat refine ⟨sc,?_⟩
    try exact sf
   ·cases o3:old.text.2
    ·cases aside
     ·refine G3 o1 o2 o3 ?_
      refine .of (c_i_sameCell new ⟨0,[]⟩) ?_
      try simp -implicitDefEqProofs (maxSteps:=1000000) only [go_sem,CellV.no,e,o1,o2,o3]
      repeat refine ⟨sc,?_⟩
      try exact sf
     ·try simp -implicitDefEqProofs (maxSteps:=1000000) only [go_sem,o1,o2,o3,CellV.no]
      repeat refine ⟨sc,?_⟩
      try exact sf
      refine .of (c_i_sameCell new ⟨0,[]⟩) ?_
      try simp -implicitDefEqProofs (maxSteps:=1000000) only [go_sem,CellV.no]
      repeat refine ⟨sc,?_⟩
      try exact sf
      cases n1:((new.Tag==0)&&decide (new.B=[]))
      ·try simp -implicitDefEqProofs (maxSteps:=1000000) only [go_sem,n1,CellV.no,e,o1,o2,o3]
       repeat refine ⟨sc,?_⟩
       try exact sf
      ·try simp -implicitDefEqProofs (maxSteps:=1000000) only [go_sem,n1,CellV.no,e,o1,o2,o3]
       repeat refine ⟨sc,?_⟩
       try exact sf
    ·try simp -implicitDefEqProofs (maxSteps:=1000000) only [go_sem,o1,o2,o3,CellV.no]
     repeat refine ⟨sc,?_⟩
     try exact sf
     refine .of (c_i_sameCell new ⟨0,[]⟩) ?_
     try simp -implicitDefEqProofs (maxSteps:=1000000) only [go_sem,CellV.no]
     repeat refine ⟨sc,?_⟩
     try exact sf
     cases n1:((new.Tag==0)&&decide (new.B=[]))
     ·try simp -implicitDefEqProofs (maxSteps:=1000000) only [go_sem,n1,CellV.no,e,o1,o2,o3]
      repeat refine ⟨sc,?_⟩
      try exact sf
     ·try simp -implicitDefEqProofs (maxSteps:=1000000) only [go_sem,n1,CellV.no,e,o1,o2,o3]
      repeat refine ⟨sc,?_⟩
      try exact sf
 ·skip
  have e:=rowOk_2 (o:=old) (n:=new) (a:=aside) g1
  refine G0 ?_
  refine C0 (c_i_CellText old) ?_
  refine C0 (c_i_CellText new) ?_
  refine .of (c_i_sameCell old ⟨0,[]⟩) ?_
  try simp -implicitDefEqProofs (maxSteps:=1000000) only [go_sem,CellV.no]
  repeat refine ⟨sc,?_⟩
  try exact sf
  refine .of (c_i_sameCell new ⟨0,[]⟩) ?_
  try simp -implicitDefEqProofs (maxSteps:=1000000) only [go_sem,CellV.no]
  repeat refine ⟨sc,?_⟩
  try exact sf
  cases o1:((old.Tag==0)&&decide (old.B=[]))
  ·cases n1:(new.Tag==0)
   ·try simp -implicitDefEqProofs (maxSteps:=1000000) only [go_sem,o1,n1,e,CellV.no]
    repeat refine ⟨sc,?_⟩
    try exact sf
   ·try simp -implicitDefEqProofs (maxSteps:=1000000) only [go_sem,o1,n1,e,CellV.no]
    repeat refine ⟨sc,?_⟩
    try exact sf
  ·cases n1:(new.Tag==0)
   ·try simp -implicitDefEqProofs (maxSteps:=1000000) only [go_sem,o1,n1,e,CellV.no]
    repeat refine ⟨sc,?_⟩
    try exact sf
   ·cases n2:new.text.2
    ·try simp -implicitDefEqProofs (maxSteps:=1000000) only [go_sem,o1,n1,n2,e,CellV.no]
     repeat refine ⟨sc,?_⟩
     try exact sf
    ·try simp -implicitDefEqProofs (maxSteps:=1000000) only [go_sem,o1,n1,n2,e,CellV.no]
     repeat refine ⟨sc,?_⟩
     try exact sf
 ·skip
  have e:=rowOk_3 (o:=old) (n:=new) (a:=aside) g1
  refine G0 ?_
  refine C0 (c_i_CellText old) ?_
  refine C0 (c_i_CellText new) ?_
  refine .of (c_i_sameCell old ⟨0,[]⟩) ?_
  try simp -implicitDefEqProofs (maxSteps:=1000000) only [go_sem,CellV.no]
  repeat refine ⟨sc,?_⟩
  try exact sf
  refine C0 (c_i_CellOk old) ?_
  cases o1:old.ok
  ·refine G1 o1 ?_
   refine .of (c_i_sameCell new ⟨0,[]⟩) ?_
   try simp -implicitDefEqProofs (maxSteps:=1000000) only [go_sem,CellV.no]
   repeat refine ⟨sc,?_⟩
   try exact sf
   cases n1:(new.Tag==0)
   ·try simp -implicitDefEqProofs (maxSteps:=1000000) only [go_sem,n1,CellV.no,e,o1]
    repeat refine ⟨sc,?_⟩
    try exact sf
   ·try simp -implicitDefEqProofs (maxSteps:=1000000) only [go_sem,n1,CellV.no,e,o1]
    repeat refine ⟨sc,?_⟩
    try exact sf
  ·cases o2:(old.Tag != 0)
   ·refine G2 o1 o2 ?_
    refine .of (c_i_sameCell new ⟨0,[]⟩) ?_
    try simp -implicitDefEqProofs (maxSteps:=1000000) only [go_sem,CellV.no]
    repeat refine ⟨sc,?_⟩
    try exact sf
    cases n1:(new.Tag==0)
    ·try simp -implicitDefEqProofs (maxSteps:=1000000) only [go_sem,n1,CellV.no,e,o1,o2]
     repeat refine ⟨sc,?_⟩
     try exact sf
    ·try simp -implicitDefEqProofs (maxSteps:=1000000) only [go_sem,n1,CellV.no,e,o1,o2]
     repeat refine ⟨sc,?_⟩
     try exact sf
   ·cases o3:old.text.2
    ·cases aside
     ·try simp -implicitDefEqProofs (maxSteps:=1000000) only [go_sem,o1,o2,o3,CellV.no]
      repeat refine ⟨sc,?_⟩
      try exact sf
      refine .of (c_i_sameCell new ⟨0,[]⟩) ?_
      try simp -implicitDefEqProofs (maxSteps:=1000000) only [go_sem,CellV.no]
      repeat refine ⟨sc,?_⟩
      try exact sf
      cases n1:(new.Tag==0)
      ·try simp -implicitDefEqProofs (maxSteps:=1000000) only [go_sem,n1,CellV.no,e,o1,o2,o3]
       repeat refine ⟨sc,?_⟩
       try exact sf
      ·try simp -implicitDefEqProofs (maxSteps:=1000000) only [go_sem,n1,CellV.no,e,o1,o2,o3]
       repeat refine ⟨sc,?_⟩
       try exact sf
     ·try simp -implicitDefEqProofs (maxSteps:=1000000) only [go_sem,o1,o2,o3,CellV.no]
      repeat refine ⟨sc,?_⟩
      try exact sf
      refine .of (c_i_sameCell new ⟨0,[]⟩) ?_
      try simp -implicitDefEqProofs (maxSteps:=1000000) only [go_sem,CellV.no]
      repeat refine ⟨sc,?_⟩
      try exact sf
      cases n1:(new.Tag==0)
      ·try simp -implicitDefEqProofs (maxSteps:=1000000) only [go_sem,n1,CellV.no,e,o1,o2,o3]
       repeat refine ⟨sc,?_⟩
       try exact sf
      ·try simp -implicitDefEqProofs (maxSteps:=1000000) only [go_sem,n1,CellV.no,e,o1,o2,o3]
       repeat refine ⟨sc,?_⟩
       try exact sf
    ·try simp -implicitDefEqProofs (maxSteps:=1000000) only [go_sem,o1,o2,o3,CellV.no]
     repeat refine ⟨sc,?_⟩
     try exact sf
     refine .of (c_i_sameCell new ⟨0,[]⟩) ?_
     try simp -implicitDefEqProofs (maxSteps:=1000000) only [go_sem,CellV.no]
     repeat refine ⟨sc,?_⟩
     try exact sf
     cases n1:(new.Tag==0)
     ·try simp -implicitDefEqProofs (maxSteps:=1000000) only [go_sem,n1,CellV.no,e,o1,o2,o3]
      repeat refine ⟨sc,?_⟩
      try exact sf
     ·cases n2:new.text.2
      ·try simp -implicitDefEqProofs (maxSteps:=1000000) only [go_sem,n1,n2,CellV.no,e,o1,o2,o3]
       repeat refine ⟨sc,?_⟩
       try exact sf
      ·try simp -implicitDefEqProofs (maxSteps:=1000000) only [go_sem,n1,n2,CellV.no]
       repeat refine ⟨sc,?_⟩
       try exact sf
       refine .of (c_i_SameText old new) ?_
       try simp -implicitDefEqProofs (maxSteps:=1000000) only [go_sem,e,o1,o2,o3,n1,n2]
       repeat refine ⟨sc,?_⟩
       try exact sf
def x_s_PutRec:FnX:=⟨70,[.tmp 6],
  .q [.v 5 2,.op 6 (.mv (.k (.one (.nils 1))))]
 (.seq (.q [.L 8 13 5,.c 9 114 [8],.N 10 9,.m 11 10,.z 11 (.m 12 0),.z 11 (.c 13 120 [12]),.z 11 (.N 14 13),.r 15 11 14,.m 16 15,.z 16 (.m 17 1),.z 16 (.c 18 120 [17]),.z 16 (.N 19 18),.r 20 16 19]
 (.c 20 (.q [.op 21 (.bslice 1 []),.m 6 21]
 .ret)))
 (.seq (.draw [.op 22 (.bslice 1 []),.m 23 0,.c 24 121 [22,23],.m 25 1,.c 26 121 [24,25],.f 27 5 0,.l 28 27,.op 29 (.conv (.int .u8) (.t 28)),.op 30 (.bslice 1 [(.t 29)]),.op 31 (.app 1 1 (.t 26) (.t 30)),.m 7 31] [[],[],[0,1],[],[2,3,2],[],[5],[6],[7],[4,8,4],[9,9,0,1,2,3,4,5,6,7,8,9]])
 (.seq (.q [.f 32 5 0,.l 33 32]
 (.block 0 (.q [.B 35 .eql 33 1,.m 34 35]
 (.cond 34 (.reg [.m 36 7,.f 37 5 1,.L 38 7 37,.c 39 122 [36,38],.m 7 39]) (.q [.B 41 .eql 33 2,.m 40 41]
 (.cond 40 (.reg [.m 42 7,.f 43 5 8,.l 44 43,.c 45 123 [42,44],.m 7 45]) (.q [.B 47 .eql 33 3,.m 46 47]
 (.c 46 (.reg [.m 48 7,.f 49 5 9,.l 50 49,.op 51 (.conv (.int .u8) (.t 50)),.op 52 (.bslice 1 [(.t 51)]),.op 53 (.app 1 1 (.t 48) (.t 52)),.m 7 53])))))))))
 (.seq (.draw [.m 54 7,.f 55 5 10,.l 56 55,.op 57 (.conv (.int .u8) (.t 56)),.f 58 5 12,.l 59 58,.op 60 (.conv (.int .u8) (.t 59)),.op 61 (.bslice 1 [(.t 57),(.t 60)]),.op 62 (.app 1 1 (.t 54) (.t 61)),.f 63 5 11,.l 64 63,.c 65 121 [62,64],.m 7 65] [[],[],[1],[2],[],[4],[5],[3,6],[0,7],[],[9],[8,10,8],[11,11,0,1,2,3,4,5,6,7,8,9,10,11]])
 (.q [.m 66 7,.m 67 7,.c 68 124 [67],.c 69 121 [66,68],.m 6 69]
 .ret)))))⟩
theorem r_s_PutRec {Te:TE} (c_s_RecOk:C_s_RecOk Te) (c_s_l1Word:C_s_l1Word Te) (c_s_PutW:C_s_PutW Te) (c_s_PutRow:C_s_PutRow Te) (c_s_PutText:C_s_PutText Te) (c_s_Sum:C_s_Sum Te):C_s_PutRec (RF Te x_s_PutRec):=by
 intro gen place r h
 have h1:=h.1
 have h2:=h.2
 refine X0 x_s_PutRec.eq_1 ?_
 refine C0 (c_s_RecOk r h) ?_
 cases g1:r.ok
 ·have e:=recNo1 (gen:=gen) (place:=place) g1
  exact F1 e
 refine G0 ?_
 refine C0 (c_s_l1Word _) ?_
 cases g2:win gen 0 65535
 ·have e:=recNo2 (place:=place) (r:=r) g2
  exact F1 e
 refine G0 ?_
 refine C0 (c_s_l1Word _) ?_
 cases g3:win place 0 65535
 ·have e:=recNo3 (gen:=gen) (r:=r) g3
  exact F1 e
 refine G0 ?_
 have ey:=recYes g1 g2 g3
 have lw:(putW (putW [] gen) place).length=4:=by rw [putW_len,putW_len]; rfl
 have t1:=c_s_PutW [] gen (by show 0≤2 ^ 30; decide)
 refine C0 (t1) ?_
 refine .of (c_s_PutW (putW [] gen) place (by rw [putW_len]; show 0 + 2≤2 ^ 30; decide)) ?_
 try simp -implicitDefEqProofs (maxSteps:=1000000) only [go_sem,mkU_wrap,app1B,take1B]
 repeat refine ⟨sc,?_⟩
 try exact sf
 have e1:putW (putW [] gen) place++[mkU r.Kind]=recHead gen place r:=rfl
 have e2:(putW (putW [] gen) place).length + 1=(recHead gen place r).length:=by rw [recHead,List.length_append]; rfl
 simp only [e1,e2]
 have l0:=recHead_len gen place r
 generalize eH:recHead gen place r=H at l0 ⊢
 by_cases q1:r.Kind=1
 ·have k1:(r.Kind==1)=true:=by rw [q1]; rfl
  refine G1 k1 ?_
  refine C0 (c_s_PutRow H r.R (by omega) h1) ?_
  have e3:putRow H r.R=recKind H r:=(if_pos q1).symm
  have l3:=recKind_len H r
  try simp -implicitDefEqProofs (maxSteps:=1000000) only [go_sem,e3,mkU_wrap,app2B,take2B]
  repeat refine ⟨sc,?_⟩
  try exact sf
  have tt:=c_s_PutW (recKind H r++[mkU r.Who,mkU r.Code]) r.Seq (by rw [List.length_append]; simp only [List.length_cons,List.length_nil]; omega)
  have e4:putW (recKind H r++[mkU r.Who,mkU r.Code]) r.Seq=recBody gen place r:=by rw [recBody,eH]
  rw [e4] at tt
  refine C0 (tt) ?_
  have l4:=recBody_len gen place r
  refine C0 (c_s_Sum (recBody gen place r) (by omega)) ?_
  refine .of (c_s_PutW (recBody gen place r) _ (by omega)) ?_
  try simp -implicitDefEqProofs (maxSteps:=1000000) only [go_sem,ey]
  repeat refine ⟨sc,?_⟩
  try exact sf
 by_cases q2:r.Kind=2
 ·have k1:(r.Kind==1)=false:=by rw [q2]; rfl
  have k2:(r.Kind==2)=true:=by rw [q2]; rfl
  refine G2 k1 k2 ?_
  refine C0 (c_s_PutText H r.Key (by omega) h2) ?_
  have e3:putText H r.Key=recKind H r:=by rw [recKind,if_neg q1,if_pos q2]
  have l3:=recKind_len H r
  try simp -implicitDefEqProofs (maxSteps:=1000000) only [go_sem,e3,mkU_wrap,app2B,take2B]
  repeat refine ⟨sc,?_⟩
  try exact sf
  have tt:=c_s_PutW (recKind H r++[mkU r.Who,mkU r.Code]) r.Seq (by rw [List.length_append]; simp only [List.length_cons,List.length_nil]; omega)
  have e4:putW (recKind H r++[mkU r.Who,mkU r.Code]) r.Seq=recBody gen place r:=by rw [recBody,eH]
  rw [e4] at tt
  refine C0 (tt) ?_
  have l4:=recBody_len gen place r
  refine C0 (c_s_Sum (recBody gen place r) (by omega)) ?_
  refine .of (c_s_PutW (recBody gen place r) _ (by omega)) ?_
  try simp -implicitDefEqProofs (maxSteps:=1000000) only [go_sem,ey]
  repeat refine ⟨sc,?_⟩
  try exact sf
 by_cases q3:r.Kind=3
 ·have k1:(r.Kind==1)=false:=by rw [q3]; rfl
  have k2:(r.Kind==2)=false:=by rw [q3]; rfl
  have k3:(r.Kind==3)=true:=by rw [q3]; rfl
  have e3:H++[mkU r.N]=recKind H r:=by rw [recKind,if_neg q1,if_neg q2,if_pos q3]
  have e5:H.length + 1=(recKind H r).length:=by rw [← e3,List.length_append]; rfl
  have l3:=recKind_len H r
  try simp -implicitDefEqProofs (maxSteps:=1000000) only [go_sem,k1,k2,k3,mkU_wrap,app1B,e3,e5,take_rows]
  repeat refine ⟨sc,?_⟩
  try exact sf
  try simp -implicitDefEqProofs (maxSteps:=1000000) only [go_sem,e3,mkU_wrap,app2B,take2B]
  repeat refine ⟨sc,?_⟩
  try exact sf
  have tt:=c_s_PutW (recKind H r++[mkU r.Who,mkU r.Code]) r.Seq (by rw [List.length_append]; simp only [List.length_cons,List.length_nil]; omega)
  have e4:putW (recKind H r++[mkU r.Who,mkU r.Code]) r.Seq=recBody gen place r:=by rw [recBody,eH]
  rw [e4] at tt
  refine C0 (tt) ?_
  have l4:=recBody_len gen place r
  refine C0 (c_s_Sum (recBody gen place r) (by omega)) ?_
  refine .of (c_s_PutW (recBody gen place r) _ (by omega)) ?_
  try simp -implicitDefEqProofs (maxSteps:=1000000) only [go_sem,ey]
  repeat refine ⟨sc,?_⟩
  try exact sf
 obtain ⟨k1,k2,k3⟩:=other3 q1 q2 q3
 refine G3 k1 k2 k3 ?_
 have e3:recKind H r=H:=by rw [recKind,if_neg q1,if_neg q2,if_neg q3]
 try simp -implicitDefEqProofs (maxSteps:=1000000) only [go_sem,mkU_wrap,app2B,take2B]
 repeat refine ⟨sc,?_⟩
 try exact sf
 have tt:=c_s_PutW (H++[mkU r.Who,mkU r.Code]) r.Seq (by rw [List.length_append]; simp only [List.length_cons,List.length_nil]; omega)
 have e4:putW (H++[mkU r.Who,mkU r.Code]) r.Seq=recBody gen place r:=by rw [recBody,eH,e3]
 rw [e4] at tt
 refine C0 (tt) ?_
 have l4:=recBody_len gen place r
 refine C0 (c_s_Sum (recBody gen place r) (by omega)) ?_
 refine .of (c_s_PutW (recBody gen place r) _ (by omega)) ?_
 try simp -implicitDefEqProofs (maxSteps:=1000000) only [go_sem,ey]
 repeat refine ⟨sc,?_⟩
 try exact sf
def x_i_HeadOf:FnX:=⟨22,[.tmp 4],
  .q [.op 4 (.mv (.k (.one (.nils 1))))]
 (.seq (.q [.m 6 0,.op 7 (.call 77 [0,0,0] [(.t 6),(.i 1),(.i 60000)]),.N 8 7,.m 9 8,.z 9 (.m 10 1),.z 9 (.op 11 (.call 77 [0,0,0] [(.t 10),(.i 0),(.i 30)])),.z 9 (.N 12 11),.r 13 9 12]
 (.c 13 (.q [.op 4 (.mv (.k (.one (.nils 1))))]
 .ret)))
 (.q [.m 14 0,.op 15 (.call 201 [0,0] [(.k (.one (.nils 1))),(.t 14)]),.m 16 1,.c 17 201 [15,16],.m 5 17]
 (.q [.m 18 5,.m 19 5,.c 20 204 [19],.c 21 201 [18,20],.m 4 21]
 .ret)))⟩
theorem r_i_HeadOf {Te:TE} (c_i_within:C_i_within Te) (c_i_PutW:C_i_PutW Te) (c_i_Sum:C_i_Sum Te):C_i_HeadOf (RF Te x_i_HeadOf):=by
 intro gen n
 refine X0 x_i_HeadOf.eq_1 ?_
 refine C0 (c_i_within _ _ _) ?_
 cases g1:win gen 1 60000
 ·have e:headOf gen n=[]:=by rw [headOf,headGood,g1]; rfl
  exact F1 e
 refine G0 ?_
 refine C0 (c_i_within _ _ _) ?_
 cases g2:win n 0 30
 ·have e:headOf gen n=[]:=by rw [headOf,headGood,g1,g2]; rfl
  exact F1 e
 refine G0 ?_
 have e:headOf gen n=putW (putW (putW [] gen) n) (sum (putW (putW [] gen) n):Nat):=by rw [headOf,headGood,g1,g2]; rfl
 have l1:(putW (putW [] gen) n).length=4:=by rw [putW_len,putW_len]; rfl
 have t1:=c_i_PutW [] gen (by show 0≤2 ^ 30; decide)
 refine C0 (t1) ?_
 refine C0 (c_i_PutW (putW [] gen) n (by rw [putW_len]; show 0 + 2≤2 ^ 30; decide)) ?_
 refine C0 (c_i_Sum (putW (putW [] gen) n) (by omega)) ?_
 refine .of (c_i_PutW (putW (putW [] gen) n) _ (by omega)) ?_
 try simp -implicitDefEqProofs (maxSteps:=1000000) only [go_sem,e]
 repeat refine ⟨sc,?_⟩
 try exact sf
def x_i_PutRec:FnX:=⟨68,[.tmp 6],
  .q [.v 5 2,.op 6 (.mv (.k (.one (.nils 1))))]
 (.seq (.q [.L 8 13 5,.c 9 192 [8],.N 10 9,.m 11 10,.z 11 (.m 12 0),.z 11 (.c 13 200 [12]),.z 11 (.N 14 13),.r 15 11 14,.m 16 15,.z 16 (.m 17 1),.z 16 (.c 18 200 [17]),.z 16 (.N 19 18),.r 20 16 19]
 (.c 20 (.q [.op 6 (.mv (.k (.one (.nils 1))))]
 .ret)))
 (.seq (.draw [.m 21 0,.op 22 (.call 201 [0,0] [(.k (.one (.nils 1))),(.t 21)]),.m 23 1,.c 24 201 [22,23],.f 25 5 0,.l 26 25,.op 27 (.conv (.int .u8) (.t 26)),.op 28 (.bslice 1 [(.t 27)]),.op 29 (.app 1 1 (.t 24) (.t 28)),.m 7 29] [[],[0],[],[1,2,1],[],[4],[5],[6],[3,7,3],[8,8,0,1,2,3,4,5,6,7,8]])
 (.seq (.q [.f 30 5 0,.l 31 30]
 (.block 0 (.q [.B 33 .eql 31 1,.m 32 33]
 (.cond 32 (.reg [.m 34 7,.f 35 5 1,.L 36 7 35,.c 37 202 [34,36],.m 7 37]) (.q [.B 39 .eql 31 2,.m 38 39]
 (.cond 38 (.reg [.m 40 7,.f 41 5 8,.l 42 41,.c 43 203 [40,42],.m 7 43]) (.q [.B 45 .eql 31 3,.m 44 45]
 (.c 44 (.reg [.m 46 7,.f 47 5 9,.l 48 47,.op 49 (.conv (.int .u8) (.t 48)),.op 50 (.bslice 1 [(.t 49)]),.op 51 (.app 1 1 (.t 46) (.t 50)),.m 7 51])))))))))
 (.seq (.draw [.m 52 7,.f 53 5 10,.l 54 53,.op 55 (.conv (.int .u8) (.t 54)),.f 56 5 12,.l 57 56,.op 58 (.conv (.int .u8) (.t 57)),.op 59 (.bslice 1 [(.t 55),(.t 58)]),.op 60 (.app 1 1 (.t 52) (.t 59)),.f 61 5 11,.l 62 61,.c 63 201 [60,62],.m 7 63] [[],[],[1],[2],[],[4],[5],[3,6],[0,7],[],[9],[8,10,8],[11,11,0,1,2,3,4,5,6,7,8,9,10,11]])
 (.q [.m 64 7,.m 65 7,.c 66 204 [65],.c 67 201 [64,66],.m 6 67]
 .ret)))))⟩
theorem r_i_PutRec {Te:TE} (c_i_RecOk:C_i_RecOk Te) (c_i_isWord:C_i_isWord Te) (c_i_PutW:C_i_PutW Te) (c_i_PutRow:C_i_PutRow Te) (c_i_PutText:C_i_PutText Te) (c_i_Sum:C_i_Sum Te):C_i_PutRec (RF Te x_i_PutRec):=by
 intro gen place r h
 have h1:=h.1
 have h2:=h.2
 refine X0 x_i_PutRec.eq_1 ?_
 refine C0 (c_i_RecOk r h) ?_
 cases g1:r.ok
 ·have e:=recNo1 (gen:=gen) (place:=place) g1
  exact F1 e
 refine G0 ?_
 refine C0 (c_i_isWord _) ?_
 cases g2:win gen 0 65535
 ·have e:=recNo2 (place:=place) (r:=r) g2
  exact F1 e
 refine G0 ?_
 refine C0 (c_i_isWord _) ?_
 cases g3:win place 0 65535
 ·have e:=recNo3 (gen:=gen) (r:=r) g3
  exact F1 e
 refine G0 ?_
 have ey:=recYes g1 g2 g3
 have lw:(putW (putW [] gen) place).length=4:=by rw [putW_len,putW_len]; rfl
 have t1:=c_i_PutW [] gen (by show 0≤2 ^ 30; decide)
 refine C0 (t1) ?_
 refine .of (c_i_PutW (putW [] gen) place (by rw [putW_len]; show 0 + 2≤2 ^ 30; decide)) ?_
 try simp -implicitDefEqProofs (maxSteps:=1000000) only [go_sem,mkU_wrap,app1B,take1B]
 repeat refine ⟨sc,?_⟩
 try exact sf
 have e1:putW (putW [] gen) place++[mkU r.Kind]=recHead gen place r:=rfl
 have e2:(putW (putW [] gen) place).length + 1=(recHead gen place r).length:=by rw [recHead,List.length_append]; rfl
 simp only [e1,e2]
 have l0:=recHead_len gen place r
 generalize eH:recHead gen place r=H at l0 ⊢
 by_cases q1:r.Kind=1
 ·have k1:(r.Kind==1)=true:=by rw [q1]; rfl
  refine G1 k1 ?_
  refine C0 (c_i_PutRow H r.R (by omega) h1) ?_
  have e3:putRow H r.R=recKind H r:=(if_pos q1).symm
  have l3:=recKind_len H r
  try simp -implicitDefEqProofs (maxSteps:=1000000) only [go_sem,e3,mkU_wrap,app2B,take2B]
  repeat refine ⟨sc,?_⟩
  try exact sf
  have tt:=c_i_PutW (recKind H r++[mkU r.Who,mkU r.Code]) r.Seq (by rw [List.length_append]; simp only [List.length_cons,List.length_nil]; omega)
  have e4:putW (recKind H r++[mkU r.Who,mkU r.Code]) r.Seq=recBody gen place r:=by rw [recBody,eH]
  rw [e4] at tt
  refine C0 (tt) ?_
  have l4:=recBody_len gen place r
  refine C0 (c_i_Sum (recBody gen place r) (by omega)) ?_
  refine .of (c_i_PutW (recBody gen place r) _ (by omega)) ?_
  try simp -implicitDefEqProofs (maxSteps:=1000000) only [go_sem,ey]
  repeat refine ⟨sc,?_⟩
  try exact sf
 by_cases q2:r.Kind=2
 ·have k1:(r.Kind==1)=false:=by rw [q2]; rfl
  have k2:(r.Kind==2)=true:=by rw [q2]; rfl
  refine G2 k1 k2 ?_
  refine C0 (c_i_PutText H r.Key (by omega) h2) ?_
  have e3:putText H r.Key=recKind H r:=by rw [recKind,if_neg q1,if_pos q2]
  have l3:=recKind_len H r
  try simp -implicitDefEqProofs (maxSteps:=1000000) only [go_sem,e3,mkU_wrap,app2B,take2B]
  repeat refine ⟨sc,?_⟩
  try exact sf
  have tt:=c_i_PutW (recKind H r++[mkU r.Who,mkU r.Code]) r.Seq (by rw [List.length_append]; simp only [List.length_cons,List.length_nil]; omega)
  have e4:putW (recKind H r++[mkU r.Who,mkU r.Code]) r.Seq=recBody gen place r:=by rw [recBody,eH]
  rw [e4] at tt
  refine C0 (tt) ?_
  have l4:=recBody_len gen place r
  refine C0 (c_i_Sum (recBody gen place r) (by omega)) ?_
  refine .of (c_i_PutW (recBody gen place r) _ (by omega)) ?_
  try simp -implicitDefEqProofs (maxSteps:=1000000) only [go_sem,ey]
  repeat refine ⟨sc,?_⟩
  try exact sf
 by_cases q3:r.Kind=3
 ·have k1:(r.Kind==1)=false:=by rw [q3]; rfl
  have k2:(r.Kind==2)=false:=by rw [q3]; rfl
  have k3:(r.Kind==3)=true:=by rw [q3]; rfl
  have e3:H++[mkU r.N]=recKind H r:=by rw [recKind,if_neg q1,if_neg q2,if_pos q3]
  have e5:H.length + 1=(recKind H r).length:=by rw [← e3,List.length_append]; rfl
  have l3:=recKind_len H r
  try simp -implicitDefEqProofs (maxSteps:=1000000) only [go_sem,k1,k2,k3,mkU_wrap,app1B,e3,e5,take_rows]
  repeat refine ⟨sc,?_⟩
  try exact sf
  try simp -implicitDefEqProofs (maxSteps:=1000000) only [go_sem,e3,mkU_wrap,app2B,take2B]
  repeat refine ⟨sc,?_⟩
  try exact sf
  have tt:=c_i_PutW (recKind H r++[mkU r.Who,mkU r.Code]) r.Seq (by rw [List.length_append]; simp only [List.length_cons,List.length_nil]; omega)
  have e4:putW (recKind H r++[mkU r.Who,mkU r.Code]) r.Seq=recBody gen place r:=by rw [recBody,eH]
  rw [e4] at tt
  refine C0 (tt) ?_
  have l4:=recBody_len gen place r
  refine C0 (c_i_Sum (recBody gen place r) (by omega)) ?_
  refine .of (c_i_PutW (recBody gen place r) _ (by omega)) ?_
  try simp -implicitDefEqProofs (maxSteps:=1000000) only [go_sem,ey]
  repeat refine ⟨sc,?_⟩
  try exact sf
 obtain ⟨k1,k2,k3⟩:=other3 q1 q2 q3
 refine G3 k1 k2 k3 ?_
 have e3:recKind H r=H:=by rw [recKind,if_neg q1,if_neg q2,if_neg q3]
 try simp -implicitDefEqProofs (maxSteps:=1000000) only [go_sem,mkU_wrap,app2B,take2B]
 repeat refine ⟨sc,?_⟩
 try exact sf
 have tt:=c_i_PutW (H++[mkU r.Who,mkU r.Code]) r.Seq (by rw [List.length_append]; simp only [List.length_cons,List.length_nil]; omega)
 have e4:putW (H++[mkU r.Who,mkU r.Code]) r.Seq=recBody gen place r:=by rw [recBody,eH,e3]
 rw [e4] at tt
 refine C0 (tt) ?_
 have l4:=recBody_len gen place r
 refine C0 (c_i_Sum (recBody gen place r) (by omega)) ?_
 refine .of (c_i_PutW (recBody gen place r) _ (by omega)) ?_
 try simp -implicitDefEqProofs (maxSteps:=1000000) only [go_sem,ey]
 repeat refine ⟨sc,?_⟩
 try exact sf
def x_s_GetSign_1:XCode:=.seq (.q [.i 9 1]
 (.block 0 (.loop [0,1,7,8,9] (.seq (.q [.m 43 9,.m 44 7,.b 45 .lss 43 44]
 (.cond 45 .skip (.exit 0)))
 (.seq (.block 1 (.seq (.q [.m 48 0,.m 49 1,.m 50 9,.b 51 .add 49 50,.x 52 1 48 51,.l 53 52,.op 54 (.bin .and (.t 53) (.k (.one (.pv (.int .u8 192))))),.op 55 (.bin .neq (.t 54) (.k (.one (.pv (.int .u8 128)))))]
 (.c 55 (.q [.i 4 0,.i 5 0,.F 6]
 .ret)))
 (.reg [.m 56 8,.op 57 (.bin .shl (.t 56) (.k (.one (.pv (.int .u64 6))))),.m 58 0,.m 59 1,.m 60 9,.b 61 .add 59 60,.x 62 1 58 61,.l 63 62,.op 64 (.bin .and (.t 63) (.k (.one (.pv (.int .u8 63))))),.op 65 (.conv (.int .i64) (.t 64)),.b 66 .or 57 65,.m 8 66])))
 (.reg [.m 46 9,.B 47 .add 46 1,.m 9 47]))))))
 (.norm [0,1,7,8] (.seq (.seq (.draw [.m 67 8,.c 68 112 [67],.N 69 68,.m 70 69,.z 70 (.op 71 (.bslice 1 [])),.z 70 (.m 72 8),.z 70 (.c 73 67 [71,72]),.z 70 (.op 74 (.conv .b2s (.t 73))),.z 70 (.m 75 0),.z 70 (.m 76 1),.z 70 (.m 77 1),.z 70 (.m 78 7),.z 70 (.b 79 .add 77 78),.z 70 (.op 80 (.slice 1 (.t 75) (some (.t 76)) (some (.t 79)))),.z 70 (.op 81 (.conv .b2s (.t 80))),.z 70 (.b 82 .neq 74 81),.r 83 70 82] [[],[0],[1],[2,1],[3],[3],[4,5,3,3],[6,3],[3],[3],[3],[3],[10,11,3],[8,9,12,3],[13,3],[7,14,3],[3,15]])
 (.c 83 (.q [.i 4 0,.i 5 0,.F 6]
 .ret)))
 (.q [.m 84 8,.m 85 1,.m 86 7,.b 87 .add 85 86,.m 4 84,.m 5 87,.T 6]
 .ret)))
def x_s_GetSign:FnX:=⟨88,[.tmp 4,.tmp 5,.tmp 6],
  .q [.i 4 0,.i 5 0,.F 6]
 (.seq (.q [.m 10 1,.m 11 0,.n 12 11,.B 13 .sub 12 1,.op 14 (.call 64 [0,0,0] [(.t 10),(.i 0),(.t 13)]),.N 15 14]
 (.c 15 (.q [.i 4 0,.i 5 0,.F 6]
 .ret)))
 (.q [.m 16 0,.m 17 1,.x 18 1 16 17,.l 19 18,.c 20 171 [19],.m 7 20]
 (.seq (.q [.m 21 7,.B 22 .eql 21 0,.m 23 22,.z 23 (.m 24 7),.z 23 (.m 25 0),.z 23 (.n 26 25),.z 23 (.m 27 1),.z 23 (.b 28 .sub 26 27),.z 23 (.b 29 .gtr 24 28),.r 30 23 29]
 (.c 30 (.q [.i 4 0,.i 5 0,.F 6]
 .ret)))
 (.q [.m 31 0,.m 32 1,.x 33 1 31 32,.l 34 33,.op 35 (.conv (.int .i64) (.t 34)),.m 8 35]
 (.seq (.q [.m 36 7,.B 37 .gtr 36 1]
 (.c 37 (.reg [.m 38 8,.m 39 7,.op 40 (.conv (.int .u64) (.t 39)),.op 41 (.bin .shr (.i 127) (.t 40)),.b 42 .and 38 41,.m 8 42])))
 (.norm [0,1,7,8] (x_s_GetSign_1)))))))⟩
theorem s_GetSign_tail {Te:Nat→List AV→Res→Prop} (c_S:C_s_SignOk Te) (c_P:C_s_PutSign Te) (b:List UInt8) (k K m:Nat) (hb:b.length≤2 ^ 30) (hK:1≤K∧K≤4∧k + K≤b.length) (hm:m < 256) :
  runC Te 2 90 x_s_GetSign_1 ⟨[(0,.one (.ro 1 (b.map uR))),(1,.one (.pv (.int .i64 (k:Int)))),(7,.one (.pv (.int .i64 (K:Int)))),(8,.one (.pv (.int .i64 (m:Int))))],[],[(0,[slT false 1 uR b]),(1,[iT k])]⟩
   (EndFn Te [.one (slT false 1 uR b),.one (iT k)] [.tmp 4,.tmp 5,.tmp 6] ⟨[.one (iT (signTail (b.drop k) k K m).1),.one (iT (signTail (b.drop k) k K m).2.1),.one (bT (signTail (b.drop k) k K m).2.2)],[[slT false 1 uR b],[iT k]]⟩):=by
 simp -implicitDefEqProofs (maxSteps:=1000000) only [x_s_GetSign_1,go_sem]
 refine loop_of (σ:=Nat) (fun j=>⟨[(0,.one (.ro 1 (b.map uR))),(1,.one (.pv (.int .i64 (k:Int)))),(7,.one (.pv (.int .i64 (K:Int)))),(8,.one (.pv (.int .i64 ((accN (b.drop k) m j:Nat):Int)))),(9,.one (.pv (.int .i64 ((j + 1:Nat):Int))))],[],[(0,[slT false 1 uR b]),(1,[iT k])]⟩) (fun j=>j + 1≤K∧contB (b.drop k) j=true) (fun j=>K - j) 0 ?_ ⟨hK.1,rfl⟩ ?_
 ·simp -implicitDefEqProofs (maxSteps:=1000000) only [go_sem]; rfl
 ·rintro j ⟨hj,hc⟩
  have hacc:=accN_small (b.drop k) hm (show j≤3 by omega)
  cases q:decide (((j + 1:Nat):Int) < (K:Int))
  ·have hjK:j=K - 1:=by simp only [decide_eq_false_iff_not] at q; omega
   subst hjK
   refine G1 q ?_
   refine C0 (c_S _) ?_
   cases h1:signOk ((accN (b.drop k) m (K - 1):Nat):Int)
   ·have e:=tail_no (l:=b.drop k) (i:=k) (K:=K) (m:=m) (by rw [h1,Bool.and_false,Bool.false_and])
    exact F1 e
   ·have e1:IntKind.i64.wrap ((k:Int) + (K:Int))=((k + K:Nat):Int):=by rw [IntWalk.i64_in _ (by omega)]; rfl
    have e2:k≤k + K:=Nat.le_add_right _ _
    have e3:List.take (k + K - k) (List.drop k (b.map uR))=((b.drop k).take K).map uR:=by rw [← List.map_drop,← List.map_take,Nat.add_sub_cancel_left]
    have e4:decide (k + K≤b.length)=true:=decide_eq_true hK.2.2
    refine G0 ?_
    refine .of (c_P [] _ (by decide)) ?_
    try simp -implicitDefEqProofs (maxSteps:=1000000) only [go_sem,e1,e3,take_map,bytesOf_uR,areBytes_uR,wholeLL_map]
    repeat refine ⟨sc,?_⟩
    try exact sf
    have ep:putSign [] ((accN (b.drop k) m (K - 1):Nat):Int)=enc8 (accN (b.drop k) m (K - 1)):=by simp only [putSign,h1,if_true,Int.toNat_natCast,List.nil_append]
    have ed:decide ((⟨(enc8 (accN (b.drop k) m (K - 1))).toArray⟩:ByteArray)=⟨((b.drop k).take K).toArray⟩)=decide (enc8 (accN (b.drop k) m (K - 1))=(b.drop k).take K):=by
     congr 1
     simp
    cases h2:decide (enc8 (accN (b.drop k) m (K - 1))=(b.drop k).take K)
    ·have e:=tail_no (l:=b.drop k) (i:=k) (K:=K) (m:=m) (by rw [h2,Bool.and_false])
     exact F4 ep ed h2 e
    ·have e:signTail (b.drop k) k K m=(((accN (b.drop k) m (K - 1):Nat):Int),(k:Int) + (K:Nat),true):=if_pos (by rw [hc,h1,h2]; rfl)
     exact F4 ep ed h2 e
  ·have hjK:j + 1 < K:=by simp only [decide_eq_true_eq] at q; omega
   have hidx:k + (j + 1) < b.length:=by omega
   have e1:IntKind.i64.wrap ((k:Int) + ((j + 1:Nat):Int))=((k + (j + 1):Nat):Int):=by rw [IntWalk.i64_in _ (by omega)]; rfl
   have eb:b[k + (j + 1)].toNat=byteN (b.drop k) (j + 1):=by
    simp only [byteN,List.getD_eq_getElem?_getD,List.getElem?_drop]
    rw [List.getElem?_eq_getElem hidx]
    rfl
   have hlt:=byteN_lt (b.drop k) (j + 1)
   have e2:=and192 (byteN (b.drop k) (j + 1)) hlt
   try simp -implicitDefEqProofs (maxSteps:=1000000) only [go_sem,q,e1,List.getElem?_eq_getElem hidx,eb,e2]
   repeat refine ⟨sc,?_⟩
   try exact sf
   cases h3:(byteN (b.drop k) (j + 1) / 64==2)
   ·have hno:contB (b.drop k) (K - 1)=false:=contB_down _ (show j + 1≤K - 1 by omega) (by simp only [contB,h3,Bool.and_false])
    have e:=tail_no (l:=b.drop k) (i:=k) (K:=K) (m:=m) (by rw [hno,Bool.false_and,Bool.false_and])
    exact F1 e
   ·have e4:IntKind.i64.wrap (((accN (b.drop k) m j:Nat):Int) * 2 ^ 6)=((accN (b.drop k) m j * 64:Nat):Int):=by rw [IntWalk.i64_in _ (by omega)]; omega
    have e5:=and8 (byteN (b.drop k) (j + 1)) hlt
    have e6:IntKind.i64.wrap ((byteN (b.drop k) (j + 1) % 64:Nat):Int)=((byteN (b.drop k) (j + 1) % 64:Nat):Int):=IntWalk.i64_in _ (by omega)
    have e7:=or_acc (accN (b.drop k) m j) (byteN (b.drop k) (j + 1) % 64) (by omega) (by omega)
    try simp -implicitDefEqProofs (maxSteps:=1000000) only [go_sem,show Nat.min 6 64=6 from rfl,e1,List.getElem?_eq_getElem hidx,eb,e4,e5,e6,e7]
    repeat refine ⟨sc,?_⟩
    try exact sf
    exact ⟨j + 1,by rw [IntWalk.i64_in _ (by omega)]; rfl,⟨hjK,by simp only [contB,hc,h3,Bool.and_true]⟩,by omega⟩
theorem r_s_GetSign {Te:TE} (c_s_l1In:C_s_l1In Te) (c_s_l2Len:C_s_l2Len Te) (c_s_SignOk:C_s_SignOk Te) (c_s_PutSign:C_s_PutSign Te):C_s_GetSign (RF Te x_s_GetSign):=by
 intro b i hb
 by_cases hi:0≤i∧i < b.length
 ·obtain ⟨k,rfl⟩:∃ k:Nat,i=k:=⟨i.toNat,by omega⟩
  have hk:k < b.length:=by omega
  have hk':((k:Int)).toNat < b.length:=by omega
  have hld:(b.drop k).length=b.length - k:=List.length_drop
  have w1:IntKind.i64.wrap ((b.length:Int) - 1)=(b.length:Int) - 1:=IntWalk.i64_in _ (by omega)
  have w2:IntKind.i64.wrap ((b.length:Int) - (k:Int))=(b.length:Int) - (k:Int):=IntWalk.i64_in _ (by omega)
  have g:win (k:Int) 0 ((b.length:Int) - 1)=true:=by simp only [win,Bool.and_eq_true,decide_eq_true_eq]; omega
  have eb:b[k].toNat=byteN (b.drop k) 0:=by
   simp only [byteN,List.getD_eq_getElem?_getD,List.getElem?_drop,Nat.add_zero]
   rw [List.getElem?_eq_getElem hk]
   rfl
  have hlt:=byteN_lt (b.drop k) 0
  have w3:IntKind.i64.wrap ((byteN (b.drop k) 0:Nat):Int)=(byteN (b.drop k) 0:Nat):=IntWalk.i64_in _ (by omega)
  refine X1 x_s_GetSign.eq_1 w1 ?_
  refine C2 (c_s_l1In _ _ _) g (List.getElem?_eq_getElem hk) ?_
  refine C2 (c_s_l2Len _) eb w2 ?_
  have bad:(l2len (byteN (b.drop k) 0)=0∨(b.drop k).length < l2len (byteN (b.drop k) 0))→getSign b k=(0,0,false):=fun h=>getSign_bad hi (by rw [Int.toNat_natCast]; exact sign0 h (by omega))
  cases q0:(((l2len (byteN (b.drop k) 0):Nat):Int)==0)
  ·cases q1:decide (((l2len (byteN (b.drop k) 0):Nat):Int) > (b.length:Int) - (k:Int))
   ·have hK0:l2len (byteN (b.drop k) 0)≠0:=by
     intro e
     rw [e] at q0
     cases q0
    have hKl:l2len (byteN (b.drop k) 0)≤(b.drop k).length:=by simp only [decide_eq_false_iff_not] at q1; omega
    have tail:∀ K m:Nat,1≤K∧K≤4∧k + K≤b.length→m < 256→_:=fun K m h1 h2=>s_GetSign_tail c_s_SignOk c_s_PutSign b k K m hb h1 h2
    have eg:getSign b (k:Int)=getTail (b.drop k) k:=by
     cases hs:signAt (b.drop k) with
     | none=>rw [getTail_none hs,getSign_bad hi (by rw [Int.toNat_natCast]; exact hs)]
     | some d=>rw [getTail_some hs,getSign_good hi (by rw [Int.toNat_natCast]; exact hs)]
    rcases l2len_in _ hK0 with ⟨hK,hv⟩ | ⟨hK,hv⟩ | ⟨hK,hv⟩ | ⟨hK,hv⟩
    ·rw [hK] at hKl q0 q1
     have ek:decide (((1:Nat):Int) > 1)=false:=by decide
     rw [eg,tail1 (l:=b.drop k) (k:Int) (by omega) hv]
     simp -implicitDefEqProofs (maxSteps:=1000000) only [go_sem,hK,q0,q1,w2,w3,List.getElem?_eq_getElem hk,eb,ek]
     exact tail 1 (byteN (b.drop k) 0) (by omega) (by omega)
    ·rw [hK] at hKl q0 q1
     have ek:decide (((2:Nat):Int) > 1)=true:=by decide
     rw [eg,tail2 (l:=b.drop k) (k:Int) (by omega) hv]
     have em:andK .i64 ((byteN (b.drop k) 0:Nat):Int) ((31:Nat):Int)=((byteN (b.drop k) 0 % 32:Nat):Int):=and_mask _ 5 hlt (by decide)
     have ew:IntKind.u64.wrap ((2:Nat):Int)=((2:Nat):Int):=by decide
     have ef:Int.fdiv 127 (2 ^ Nat.min 2 64)=((31:Nat):Int):=by decide
     simp -implicitDefEqProofs (maxSteps:=1000000) only [go_sem,hK,q0,q1,w2,w3,List.getElem?_eq_getElem hk,eb,ek,ew,ef,em]
     exact tail 2 (byteN (b.drop k) 0 % 32) (by omega) (by omega)
    ·rw [hK] at hKl q0 q1
     have ek:decide (((3:Nat):Int) > 1)=true:=by decide
     rw [eg,tail3 (l:=b.drop k) (k:Int) (by omega) hv]
     have em:andK .i64 ((byteN (b.drop k) 0:Nat):Int) ((15:Nat):Int)=((byteN (b.drop k) 0 % 16:Nat):Int):=and_mask _ 4 hlt (by decide)
     have ew:IntKind.u64.wrap ((3:Nat):Int)=((3:Nat):Int):=by decide
     have ef:Int.fdiv 127 (2 ^ Nat.min 3 64)=((15:Nat):Int):=by decide
     simp -implicitDefEqProofs (maxSteps:=1000000) only [go_sem,hK,q0,q1,w2,w3,List.getElem?_eq_getElem hk,eb,ek,ew,ef,em]
     exact tail 3 (byteN (b.drop k) 0 % 16) (by omega) (by omega)
    ·rw [hK] at hKl q0 q1
     have ek:decide (((4:Nat):Int) > 1)=true:=by decide
     rw [eg,tail4 (l:=b.drop k) (k:Int) (by omega) hv]
     have em:andK .i64 ((byteN (b.drop k) 0:Nat):Int) ((7:Nat):Int)=((byteN (b.drop k) 0 % 8:Nat):Int):=and_mask _ 3 hlt (by decide)
     have ew:IntKind.u64.wrap ((4:Nat):Int)=((4:Nat):Int):=by decide
     have ef:Int.fdiv 127 (2 ^ Nat.min 4 64)=((7:Nat):Int):=by decide
     simp -implicitDefEqProofs (maxSteps:=1000000) only [go_sem,hK,q0,q1,w2,w3,List.getElem?_eq_getElem hk,eb,ek,ew,ef,em]
     exact tail 4 (byteN (b.drop k) 0 % 8) (by omega) (by omega)
   ·have e:=bad (.inr (by simp only [decide_eq_true_eq] at q1; omega))
    exact F4 q0 q1 w2 e
  ·have e:=bad (.inl (by have:=eq_of_beq q0; omega))
   exact F2 q0 e
 ·have e:=getSign_no hi
  have w1:IntKind.i64.wrap ((b.length:Int) - 1)=(b.length:Int) - 1:=IntWalk.i64_in _ (by omega)
  have g:win i 0 ((b.length:Int) - 1)=false:=by
   simp only [win,Bool.and_eq_false_imp,decide_eq_true_eq,decide_eq_false_iff_not]
   omega
  refine X1 x_s_GetSign.eq_1 w1 ?_
  exact D2 (c_s_l1In _ _ _) g e
def x_i_Lay:FnX:=⟨44,[.cell 2 (some 9)],
  .q [.v 1 0,.op 2 (.alloc [.nils 1,.nils 2,.i 0,.F,.nils 7,.i 0,.nils 3,.i 0,.i 0])]
 (.q [.L 5 9 1,.c 6 78 [5],.op 3 (.alloc [.nils 1,.nils 2,.i 0,.F,.nils 7,.i 0,.nils 3,.i 0,.i 0]),.s 100001 9 3 6]
 (.seq (.q [.L 7 9 1,.c 8 129 [7],.N 9 8,.m 10 9,.z 10 (.f 11 1 0),.z 10 (.f 12 11 3),.z 10 (.l 13 12),.r 14 10 13,.m 15 14,.z 15 (.f 16 1 7),.z 15 (.l 17 16),.z 15 (.B 18 .eql 17 60000),.r 19 15 18]
 (.c 19 (.q [.L 20 9 3,.s 100002 9 2 20]
 .ret)))
 (.q [.f 21 1 4,.L 22 3 21,.c 23 197 [22],.m 4 23]
 (.q [.f 24 1 0,.L 25 4 24,.f 26 1 7,.l 27 26,.B 28 .add 27 1,.m 29 4,.c 30 198 [25,28,29],.f 31 3 0,.s 100003 4 31 30]
 (.seq (.q [.f 32 3 0,.f 33 32 3,.l 34 33,.N 35 34]
 (.c 35 (.reg [.f 36 1 7,.l 37 36,.B 38 .add 37 1,.m 39 4,.n 40 39,.f 41 3 7,.s 100004 1 41 38,.f 42 3 8,.s 100005 1 42 40])))
 (.q [.L 43 9 3,.s 100006 9 2 43]
 .ret))))))⟩
theorem r_i_Lay {Te:TE} (c_i_copyStore:C_i_copyStore Te) (c_i_StoreOk:C_i_StoreOk Te) (c_i_RecsOf:C_i_RecsOf Te) (c_i_laid:C_i_laid Te):C_i_Lay (RF Te x_i_Lay):=by
 intro s h
 have hL:=h.len (by decide)
 have hLT:=h.2.len (by decide)
 obtain ⟨hr1,hr2⟩:=recsOf_le h.2
 refine X0 x_i_Lay.eq_1 ?_
 refine C0 (c_i_copyStore s hL) ?_
 refine C0 (c_i_StoreOk s (h.mono (by decide))) ?_
 cases g1:s.ok
 ·have e:s.relay=s:=by rw [StoreV.relay,g1]; rfl
  try simp -implicitDefEqProofs (maxSteps:=1000000) only [go_sem,e,take_all,take_marks,StoreV.enc]
  repeat refine ⟨sc,?_⟩
  try exact sf
  try rfl
 obtain ⟨hk,_,_,_,hg,_⟩:=(StoreV.ok_iff s).1 g1
 cases g2:s.D.Down
 rotate_left
 ·have e:s.relay=s:=by rw [StoreV.relay,g1,g2]; rfl
  try simp -implicitDefEqProofs (maxSteps:=1000000) only [go_sem,g2,e,take_all,take_marks,StoreV.enc]
  repeat refine ⟨sc,?_⟩
  try exact sf
  try rfl
 cases g3:(s.Gen==60000)
 rotate_left
 ·have e:s.relay=s:=by rw [StoreV.relay,g1,g2,g3]; rfl
  try simp -implicitDefEqProofs (maxSteps:=1000000) only [go_sem,g2,g3,e,take_all,take_marks,StoreV.enc]
  repeat refine ⟨sc,?_⟩
  try exact sf
  try rfl
 have e:s.relay=s.lay (s.Gen + 1):=by rw [StoreV.relay,g1,g2,g3]; rfl
 have ew:IntKind.i64.wrap (s.Gen + 1)=s.Gen + 1:=IntWalk.i64_in _ (by omega)
 refine G2 g2 g3 ?_
 refine C0 (c_i_RecsOf s.T hLT) ?_
 have tl:=c_i_laid s.D (s.Gen + 1) (recsOf s.T) hk ⟨hr1,hr2⟩
 simp only [DevV.enc,g2] at tl
 refine G1 ew ?_
 refine C0 (tl) ?_
 cases g4:(layDev (s.Gen + 1) (recsOf s.T) s.D).Down
 ·have e2:=lay_up (s:=s) (gen:=s.Gen + 1) g4
  try simp -implicitDefEqProofs (maxSteps:=1000000) only [go_sem,g4,e,e2,ew,take_all,take_marks,StoreV.enc]
  repeat refine ⟨sc,?_⟩
  try exact sf
  try rfl
 ·have e2:=lay_down (s:=s) (gen:=s.Gen + 1) g4
  try simp -implicitDefEqProofs (maxSteps:=1000000) only [go_sem,g4,e,e2,ew,g2,take_all,take_marks,StoreV.enc]
  repeat refine ⟨sc,?_⟩
  try exact sf
  try rfl
def x_i_DevOk:FnX:=⟨57,[.tmp 2],
  .q [.v 1 0,.F 2]
 (.seq (.q [.f 7 1 0,.l 8 7,.n 9 8,.op 10 (.call 77 [0,0,0] [(.t 9),(.i 1),(.i 64)]),.N 11 10,.m 12 11,.z 12 (.f 13 1 1),.z 12 (.l 14 13),.z 12 (.n 15 14),.z 12 (.B 16 .gtr 15 40),.r 17 12 16,.m 18 17,.z 18 (.f 19 1 2),.z 18 (.l 20 19),.z 18 (.op 21 (.call 77 [0,0,0] [(.t 20),(.i (-1)),(.i 1000)])),.z 18 (.N 22 21),.r 23 18 22]
 (.c 23 (.q [.F 2]
 .ret)))
 (.seq (.q [.f 24 1 0,.l 25 24,.n 26 25,.i 27 0]
 (.block 0 (.loop [1,25,26,27] (.q [.b 28 .lss 27 26]
 (.seq (.cond 28 .skip (.exit 0))
 (.seq (.block 1 (.q [.x 29 1 25 27,.l 30 29,.m 4 30]
 (.q [.m 31 4,.n 32 31,.B 33 .gtr 32 120]
 (.c 33 (.q [.F 2]
 .ret)))))
 (.reg [.B 34 .add 27 1,.m 27 34])))))))
 (.norm [1] (.seq (.q [.f 35 1 1,.l 36 35,.n 37 36,.i 38 0]
 (.block 2 (.loop [1,36,37,38] (.q [.b 39 .lss 38 37]
 (.seq (.cond 39 .skip (.exit 2))
 (.seq (.block 3 (.q [.x 40 2 36 38,.L 41 2 40,.op 6 (.alloc [.i 0,.nils 1]),.s 100001 2 6 41]
 (.q [.f 42 6 0,.l 43 42,.f 44 1 0,.l 45 44,.n 46 45,.B 47 .sub 46 1,.op 48 (.call 77 [0,0,0] [(.t 43),(.i 0),(.t 47)]),.N 49 48,.m 50 49,.z 50 (.f 51 6 1),.z 50 (.l 52 51),.z 50 (.n 53 52),.z 50 (.B 54 .gtr 53 120),.r 55 50 54]
 (.c 55 (.q [.F 2]
 .ret)))))
 (.reg [.B 56 .add 38 1,.m 38 56])))))))
 (.norm [] (.q [.T 2]
 .ret))))))⟩
theorem r_i_DevOk {Te:TE} (c_i_within:C_i_within Te):C_i_DevOk (RF Te x_i_DevOk):=by
 intro d h
 obtain ⟨⟨hl,hS⟩,hl2,hC⟩:=h
 have ws:IntKind.i64.wrap ((d.Secs.length:Int) - 1)=(d.Secs.length:Int) - 1:=IntWalk.i64_in _ (by omega)
 refine X0 x_i_DevOk.eq_1 ?_
 refine C0 (c_i_within _ _ _) ?_
 cases g1:win (d.Secs.length:Int) 1 64
 ·have e:d.ok=false:=by simp only [DevV.ok,g1,Bool.false_and]
  exact F1 e
 cases g2:decide ((d.Cache.length:Int) > 40)
 ·have g2':decide ((d.Cache.length:Int)≤40)=true:=by rw [gt_le] at g2; simpa using g2
  refine G1 g2 ?_
  refine C0 (c_i_within _ _ _) ?_
  cases g3:win d.Fuse (-1) 1000
  ·have e:d.ok=false:=by simp only [DevV.ok,g3,Bool.and_false,Bool.false_and]
   exact F1 e
  simp -implicitDefEqProofs (maxSteps:=1000000) only [go_sem,true_implies,false_implies,true_and]
  refine loop_of (σ:=Nat) (fun i=>⟨[(1,.bp 1 0),(25,.one (.ro 1 (d.Secs.map (fun y=>[slT false 1 uR y])))),(26,.one (.pv (.int .i64 d.Secs.length))),(27,.one (.pv (.int .i64 i)))],[(1,[.ro 1 (d.Secs.map (fun y=>[slT false 1 uR y])),.ro 2 (d.Cache.map (WrV.enc false)),.pv (.int .i64 d.Fuse),.pv (.bool d.Down)])],[(0,d.enc false)]⟩) (fun i=>i≤d.Secs.length∧(d.Secs.take i).all (secGood)=true) (fun i=>d.Secs.length - i) 0 ?_ ⟨Nat.zero_le _,rfl⟩ ?_
  ·simp -implicitDefEqProofs (maxSteps:=1000000) only [go_sem]
   try rfl
  ·rintro i ⟨hi,hp⟩
   cases q:decide ((i:Int) < (d.Secs.length:Int))
   ·have eS:=all_end (p:=secGood) (show d.Secs.length≤i by simp only [decide_eq_false_iff_not] at q; omega) hp
    refine G1 q ?_
    refine loop_of (σ:=Nat) (fun i=>⟨[(1,.bp 1 0),(36,.one (.ro 2 (d.Cache.map (WrV.enc false)))),(37,.one (.pv (.int .i64 d.Cache.length))),(38,.one (.pv (.int .i64 i)))],[(1,[.ro 1 (d.Secs.map (fun y=>[slT false 1 uR y])),.ro 2 (d.Cache.map (WrV.enc false)),.pv (.int .i64 d.Fuse),.pv (.bool d.Down)])],[(0,d.enc false)]⟩) (fun i=>i≤d.Cache.length∧(d.Cache.take i).all (wrGood d.Secs.length)=true) (fun i=>d.Cache.length - i) 0 ?_ ⟨Nat.zero_le _,rfl⟩ ?_
    ·simp -implicitDefEqProofs (maxSteps:=1000000) only [go_sem]
     try rfl
    ·rintro i ⟨hi,hp⟩
     cases q:decide ((i:Int) < (d.Cache.length:Int))
     ·have eC:=all_end (p:=wrGood d.Secs.length) (show d.Cache.length≤i by simp only [decide_eq_false_iff_not] at q; omega) hp
      refine G1 q ?_
      have e:d.ok=true:=by simp only [DevV.ok,g1,g2',g3,eS,eC,Bool.and_true]
      exact F1 e
     ·have k1:i < d.Cache.length:=by simp only [decide_eq_true_eq] at q; omega
      refine G3 q (List.getElem?_eq_getElem k1) ws ?_
      refine C0 (c_i_within _ _ _) ?_
      cases g:win d.Cache[i].N 0 ((d.Secs.length:Int) - 1)
      ·have gg:wrGood d.Secs.length d.Cache[i]=false:=by simp only [wrGood,g,Bool.false_and]
       have e:d.ok=false:=by simp only [DevV.ok,all_not (p:=wrGood d.Secs.length) k1 gg,Bool.and_false]
       exact F1 e
      ·cases g2:decide ((d.Cache[i].B.length:Int) > 120)
       ·refine G2 g2 (List.getElem?_eq_getElem k1) ?_
        exact ⟨i + 1,by rw [IntWalk.i64_in _ (by omega)]; rfl,⟨k1,all_step (p:=wrGood d.Secs.length) k1 hp (by simp only [wrGood,g,g2,Bool.not_false,Bool.and_true])⟩,by omega⟩
       ·have gg:wrGood d.Secs.length d.Cache[i]=false:=by simp only [wrGood,g2,Bool.not_true,Bool.and_false]
        have e:d.ok=false:=by simp only [DevV.ok,all_not (p:=wrGood d.Secs.length) k1 gg,Bool.and_false]
        exact F3 g2 (List.getElem?_eq_getElem k1) e
   ·have k1:i < d.Secs.length:=by simp only [decide_eq_true_eq] at q; omega
    cases g:decide ((d.Secs[i].length:Int) > 120)
    ·refine G3 q (List.getElem?_eq_getElem k1) g ?_
     exact ⟨i + 1,by rw [IntWalk.i64_in _ (by omega)]; rfl,⟨k1,all_step (p:=secGood) k1 hp (by simp only [secGood,g,Bool.not_false])⟩,by omega⟩
    ·have gg:secGood d.Secs[i]=false:=by simp only [secGood,g,Bool.not_true]
     have e:d.ok=false:=by simp only [DevV.ok,all_not (p:=secGood) k1 gg,Bool.and_false,Bool.false_and]
     exact F4 q (List.getElem?_eq_getElem k1) g e
 ·have g2':decide ((d.Cache.length:Int)≤40)=false:=by rw [gt_le] at g2; simpa using g2
  have e:d.ok=false:=by simp only [DevV.ok,g2',Bool.and_false,Bool.false_and]
  exact F2 g2 e
def x_i_FlushDev:FnX:=⟨44,[.cell 2 (some 4)],
  .q [.v 1 0,.op 2 (.alloc [.nils 1,.nils 2,.i 0,.F])]
 (.q [.L 7 4 1,.c 8 130 [7],.op 3 (.alloc [.nils 1,.nils 2,.i 0,.F]),.s 100001 4 3 8]
 (.seq (.q [.L 9 4 1,.c 10 184 [9],.N 11 10,.m 12 11,.z 12 (.f 13 1 3),.z 12 (.l 14 13),.r 15 12 14]
 (.c 15 (.q [.L 16 4 3,.s 100002 4 2 16]
 .ret)))
 (.q [.L 18 4 3,.op 19 (.call 199 [1] [(.t 18)]),.m 17 19,.e 20 17 0,.e 21 17 1,.s 100003 4 3 20,.m 4 21]
 (.seq (.q [.m 22 4,.N 23 22]
 (.c 23 (.q [.L 24 4 3,.s 100004 4 2 24]
 .ret)))
 (.seq (.q [.f 25 3 1,.l 26 25,.n 27 26,.i 28 0]
 (.block 0 (.loop [2,3,26,27,28] (.q [.b 29 .lss 28 27]
 (.seq (.cond 29 .skip (.exit 0))
 (.seq (.block 1 (.q [.x 30 2 26 28,.L 31 2 30,.op 6 (.alloc [.i 0,.nils 1]),.s 100005 2 6 31]
 (.draw [.f 32 3 0,.l 33 32,.f 34 6 0,.l 35 34,.f 36 6 1,.l 37 36,.op 38 (.bslice 1 [(.t 37)]),.c 39 37 [38],.x 40 1 33 35,.s 100006 1 40 39] [[],[0],[],[2],[],[4],[5],[6],[1,3,0,1,2,3,4,5,6,7],[8,7,7,0,1,2,3,4,5,6,7]])))
 (.reg [.B 41 .add 28 1,.m 28 41])))))))
 (.norm [2,3] (.q [.f 42 3 1,⟨none,none,100007,.store 1 (.t 42) (.k (.one (.nils 2)))⟩]
 (.q [.L 43 4 3,.s 100008 4 2 43]
 .ret))))))))⟩
theorem r_i_FlushDev {Te:TE} (c_i_copyDev:C_i_copyDev Te) (c_i_DevOk:C_i_DevOk Te) (c_i_burn:C_i_burn Te) (c_i_joined:C_i_joined Te):C_i_FlushDev (RF Te x_i_FlushDev):=by
 intro d hk
 have hin:=DevV.ok_in hk
 have h40:=DevV.ok_cache hk
 have hL:=hin.len (by decide)
 have hidx:=DevV.ok_idx hk
 refine X0 x_i_FlushDev.eq_1 ?_
 refine C0 (c_i_copyDev d hL) ?_
 refine C1 (c_i_DevOk d (hin.mono (by decide))) hk ?_
 cases g1:d.Down
 rotate_left
 ·have e:d.flush=d:=by rw [DevV.flush,if_pos g1]
  try simp -implicitDefEqProofs (maxSteps:=1000000) only [go_sem,g1,e,take_all,DevV.enc]
  repeat refine ⟨sc,?_⟩
  try exact sf
  try rfl
 have e:=show d.flush=if d.Fuse=0 then d.burn else ⟨flushed d.Secs d.Cache,[],d.burn.Fuse,d.burn.Down⟩ from if_neg (by rw [g1]; decide)
 refine G1 g1 ?_
 have tb:=c_i_burn d
 simp only [DevV.enc,g1] at tb
 have bc:=burn_cache d
 have bs:=burn_secs d
 cases g6:(d.Fuse==0)
 rotate_left
 ·have g7:d.Fuse=0:=by simpa using g6
  rw [if_pos g7] at e
  refine .of (tb) ?_
  try simp -implicitDefEqProofs (maxSteps:=1000000) only [go_sem,g6,take_all,e,g1,DevV.enc]
  repeat refine ⟨sc,?_⟩
  try exact sf
  try rfl
 have g7:¬ d.Fuse=0:=by simpa using g6
 rw [if_neg g7] at e
 refine C1 (tb) g6 ?_
 refine loop_of (σ:=Nat×List (List UInt8)) (fun x=>⟨[(2,.bp 2 0),(3,.bp 3 0),(26,.one (.rf 45 1 [] 2 0 d.Cache.length)),(27,.one (.pv (.int .i64 d.Cache.length))),(28,.one (.pv (.int .i64 x.1)))],[(2,[.nils 1,.nils 2,.pv (.int .i64 0),.pv (.bool false)]),(3,[.rf 45 0 [] 1 0 d.Secs.length,.rf 45 1 [] 2 0 d.Cache.length,.pv (.int .i64 d.burn.Fuse),.pv (.bool d.burn.Down)])],[(0,d.enc false),(45,[slT true 1 (secR true) x.2,Tr.sl true 2 () (mvRows d.Cache x.1),iT d.burn.Fuse,bT d.burn.Down,bT true])]⟩) (fun x=>x.1≤d.Cache.length∧x.2=flushed d.Secs (d.Cache.take x.1)) (fun x=>d.Cache.length - x.1) (0,d.Secs) ?_ ⟨Nat.zero_le _,rfl⟩ ?_
 ·simp -implicitDefEqProofs (maxSteps:=1000000) only [go_sem,bs,bc]
  try rfl
 ·rintro ⟨i,S⟩ ⟨hi,he⟩
  simp only at hi he
  have hl:S.length=d.Secs.length:=by rw [he,flushed_len]
  have hl2:(List.map (secR true) S).length=d.Secs.length:=by rw [List.length_map,hl]
  cases q:decide ((i:Int) < (d.Cache.length:Int))
  ·have k0:i=d.Cache.length:=by simp only [decide_eq_false_iff_not] at q; omega
   rw [k0,List.take_length] at he
   have et:List.take d.Secs.length (List.map (secR true) S)=List.map (secR true) S:=List.take_of_length_le (by omega)
   rw [← he] at e
   exact F3 q et e
  ·have k1:i < d.Cache.length:=by simp only [decide_eq_true_eq] at q; omega
   have hw:=hidx _ (List.getElem_mem k1)
   have hb:d.Cache[i].B.length≤2 ^ 20:=hin.2.2 _ (List.getElem_mem k1)
   have g8:decide (0≤d.Cache[i].N)=true:=decide_eq_true hw.1
   have hn:d.Cache[i].N.toNat < S.length:=by omega
   have em:=mv_get k1
   have ec:(mvRows d.Cache i).getD i []=d.Cache[i].enc true:=by rw [List.getD_eq_getElem?_getD,em]; rfl
   have ex:=mv_set k1
   have eg:=getS hn
   have es:=setS S d.Cache[i].N.toNat d.Cache[i].B
   try simp -implicitDefEqProofs (maxSteps:=1000000) only [go_sem,q,em,ec,ex,mv_len]
   repeat refine ⟨sc,?_⟩
   try exact sf
   refine .of (c_i_joined [d.Cache[i].B] (by rw [flat1]; omega) (by show 1≤2 ^ 31; decide)) ?_
   try simp -implicitDefEqProofs (maxSteps:=1000000) only [go_sem,flat1,take_all,g8,em,ec,ex,mv_len,storeAp,setCells,eg,es,hl2]
   repeat refine ⟨sc,?_⟩
   try exact sf
   refine ⟨(i + 1,S.set d.Cache[i].N.toNat d.Cache[i].B),?_,⟨k1,by rw [he,flushed_step k1]⟩,by simp only; omega⟩
   rw [IntWalk.i64_in _ (by omega)]
   rfl
def x_l_szByteS:FnX:=⟨12,[.tmp 4],
  .q [.i 4 0]
 (.q [.m 5 1,.m 6 0,.n 7 6,.b 8 .sub 5 7,.m 1 8]
 (.seq (.q [.m 9 1,.B 10 .lss 9 0]
 (.c 10 (.q [.i 4 (-1)]
 .ret)))
 (.q [.m 11 1,.m 4 11]
 .ret)))⟩
theorem r_l_szByteS {Te:TE}:C_l_szByteS (RF Te x_l_szByteS):=by
 intro l k hl hk
 refine run0 ?_
 simp -implicitDefEqProofs (maxSteps:=1000000) (disch:=omega) only [x_l_szByteS,go_sem,IntWalk.i64_in]
 refine ⟨fun h=>?_,fun h=>?_⟩
 ·simp only [decide_eq_true_eq] at h
  simp only [left,if_pos h]
 ·simp only [decide_eq_false_iff_not] at h
  simp only [left,if_neg h]
def x_l_toByteS:FnX:=⟨22,[.tmp 2],
  .q [.op 2 (.mv (.k (.one (.nils 1))))]
 (.q [.m 5 0,.n 6 5,.op 7 (.mks 1 1 [.pv (.int .u8 0)] (.t 6)),.m 3 7]
 (.seq (.q [.i 4 0]
 (.block 0 (.loop [0,3,4] (.seq (.q [.m 8 4,.m 9 0,.n 10 9,.b 11 .lss 8 10]
 (.cond 11 .skip (.exit 0)))
 (.seq (.block 1 (.reg [.m 14 3,.m 15 4,.m 16 0,.m 17 4,.x 18 1 16 17,.l 19 18,.x 20 1 14 15,.s 100001 1 20 19]))
 (.reg [.m 12 4,.B 13 .add 12 1,.m 4 13]))))))
 (.norm [3] (.q [.m 21 3,.m 2 21]
 .ret))))⟩
theorem r_l_toByteS {Te:TE}:C_l_toByteS (RF Te x_l_toByteS):=by
 intro l hl
 refine run0 ?_
 simp -implicitDefEqProofs (maxSteps:=1000000) (disch:=omega) only [x_l_toByteS,go_sem,IntWalk.i64_in]
 refine ⟨⟨by simp only [decide_eq_true_eq]; omega,by simp only [decide_eq_true_eq]; omega⟩,?_⟩
 refine loop_of (σ:=Nat) (fun i=>⟨[(0,.one (.ro 1 (l.map uR))),(3,.one (.rf 23 0 [] 1 0 l.length)),(4,.one (.pv (.int .i64 i)))],[],
  [(0,[slT false 1 uR l]),(23,[.sl true 1 () ((l.take i).map uR++List.replicate (l.length - i) [.pv (.int .u8 0)])])]⟩) (fun i=>i≤l.length) (fun i=>l.length - i) 0 ?_ (Nat.zero_le _) ?_
 ·simp -implicitDefEqProofs (maxSteps:=1000000) only [go_sem]; rfl
 ·intro i hi
  simp -implicitDefEqProofs (maxSteps:=1000000) only [go_sem]
  refine ⟨fun h=>?_,fun h=>?_⟩
  ·have hi':i < l.length:=by simp only [decide_eq_true_eq] at h; omega
   simp -implicitDefEqProofs (maxSteps:=1000000) only [go_sem,List.getElem?_eq_getElem hi',fill_len uR l [.pv (.int .u8 0)] hi,storeAp,setCells,List.getD_eq_getElem?_getD,fill_get uR l [.pv (.int .u8 0)] hi']
   repeat (first | refine ⟨by decide,?_⟩ | refine ⟨by simpa using hi',?_⟩)
   refine ⟨i + 1,?_,hi',by omega⟩
   rw [← fill_set uR l [.pv (.int .u8 0)] hi',IntWalk.i64_in _ (by omega)]
   rfl
  ·have:i=l.length:=by simp only [decide_eq_false_iff_not] at h; omega
   subst this
   simp -implicitDefEqProofs (maxSteps:=1000000) only [go_sem,fill_len uR l [.pv (.int .u8 0)] hi,fill_end]
   refine ⟨by simp,?_⟩
   simp [take_map]
def x_l_eqByteS:FnX:=⟨26,[.tmp 4],
  .q [.F 4]
 (.seq (.q [.m 6 0,.n 7 6,.m 8 1,.n 9 8,.b 10 .neq 7 9]
 (.c 10 (.q [.F 4]
 .ret)))
 (.seq (.q [.i 5 0]
 (.block 0 (.loop [0,1,5] (.seq (.q [.m 11 5,.m 12 0,.n 13 12,.b 14 .lss 11 13]
 (.cond 14 .skip (.exit 0)))
 (.seq (.block 1 (.seq (.draw [.m 17 0,.m 18 5,.x 19 1 17 18,.l 20 19,.m 21 1,.m 22 5,.x 23 1 21 22,.l 24 23,.b 25 .neq 20 24] [[],[],[0,1],[2],[],[],[4,5],[6],[3,7]])
 (.c 25 (.q [.F 4]
 .ret))))
 (.reg [.m 15 5,.B 16 .add 15 1,.m 5 16]))))))
 (.norm [] (.q [.T 4]
 .ret))))⟩
theorem r_l_eqByteS {Te:TE}:C_l_eqByteS (RF Te x_l_eqByteS):=by
 intro l m hl
 refine run0 ?_
 simp -implicitDefEqProofs (maxSteps:=1000000) (disch:=omega) only [x_l_eqByteS,go_sem,IntWalk.i64_in]
 refine ⟨fun h=>?_,fun h=>?_⟩
 ·have:l≠m:=fun e=>by simp [e] at h
  simp [this]
 ·have hlen:l.length=m.length:=by simp at h; omega
  refine loop_of (σ:=Nat) (fun i=>⟨[(0,.one (.ro 1 (l.map uR))),(1,.one (.ro 1 (m.map uR))),(5,.one (.pv (.int .i64 i)))],[],[(0,[slT false 1 uR l]),(1,[slT false 1 uR m])]⟩) (fun i=>i≤l.length∧l.take i=m.take i) (fun i=>l.length - i) 0 ?_ ⟨Nat.zero_le _,by simp⟩ ?_
  ·simp -implicitDefEqProofs (maxSteps:=1000000) only [go_sem]; rfl
  ·intro i ⟨hi,hs⟩
   simp -implicitDefEqProofs (maxSteps:=1000000) only [go_sem]
   refine ⟨fun h=>?_,fun h=>?_⟩
   ·have hi':i < l.length:=by simp only [decide_eq_true_eq] at h; omega
    have hj':i < m.length:=by omega
    simp -implicitDefEqProofs (maxSteps:=1000000) only [go_sem,List.getElem?_eq_getElem hi',List.getElem?_eq_getElem hj',byte_neq]
    refine ⟨by decide,fun h2=>?_,fun h2=>?_⟩
    ·have:l≠m:=fun e=>by subst e; simp at h2
     simp [this]
    ·refine ⟨i + 1,by rw [IntWalk.i64_in _ (by omega)]; rfl,⟨hi',same_step hi' hj' hs ?_⟩,by omega⟩
     simpa using h2
   ·have hle:l.length≤i:=by simp only [decide_eq_false_iff_not] at h; omega
    have:l=m:=same_end hle (by omega) hs
    simp [this]
def x_l_markByteS:FnX:=⟨20,[.tmp 4],
  .q [.i 4 0]
 (.seq (.q [.i 5 0]
 (.block 0 (.loop [0,1,5] (.seq (.q [.m 6 5,.m 7 0,.n 8 7,.b 9 .lss 6 8]
 (.cond 9 .skip (.exit 0)))
 (.seq (.block 1 (.q [.m 12 0,.m 13 5,.m 14 1,.op 15 (.conv (.int .u8) (.t 14)),.x 16 1 12 13,.s 100001 1 16 15]
 (.reg [.m 17 1,.B 18 .add 17 1,.m 1 18])))
 (.reg [.m 10 5,.B 11 .add 10 1,.m 5 11]))))))
 (.norm [1] (.q [.m 19 1,.m 4 19]
 .ret)))⟩
theorem r_l_markByteS {Te:TE}:C_l_markByteS (RF Te x_l_markByteS):=by
 intro l k hl hk
 refine run0 ?_
 simp -implicitDefEqProofs (maxSteps:=1000000) (disch:=omega) only [x_l_markByteS,go_sem,IntWalk.i64_in]
 refine loop_of (σ:=Nat) (fun i=>⟨[(0,.one (.rf 0 0 [] 1 0 l.length)),(1,.one (.pv (.int .i64 (k + (1 * i:Nat))))),(5,.one (.pv (.int .i64 i)))],[],[(0,[.sl true 1 () ((marks 1 mkU i k).map uR++(l.drop i).map uR)]),(1,[iT k])]⟩) (fun i=>i≤l.length) (fun i=>l.length - i) 0 ?_ (Nat.zero_le _) ?_
 ·simp -implicitDefEqProofs (maxSteps:=1000000) only [go_sem]; simp [marks]
 ·intro i hi
  simp -implicitDefEqProofs (maxSteps:=1000000) only [go_sem]
  refine ⟨fun h=>?_,fun h=>?_⟩
  ·have hi':i < l.length:=by simp only [decide_eq_true_eq] at h; omega
   try simp -implicitDefEqProofs (maxSteps:=1000000) (disch:=omega) only [go_sem,storeAp,setCells,List.length_set,List.set_set,mark_len uR 1 mkU l k hi,List.getD_eq_getElem?_getD,mark_get uR 1 mkU l k hi',mark_reget uR 1 mkU l k hi',Option.getD_some,IntWalk.i64_in,mkU_wrap]
   repeat (first | refine ⟨by decide,?_⟩ | refine ⟨decide_eq_true hi',?_⟩)
   refine ⟨i + 1,?_,hi',by omega⟩
   rw [← mark_set uR 1 mkU l k hi',show k + ((1 * (i + 1):Nat):Int)=k + (1 * i:Nat) + 1 by omega]
   rfl
  ·have:i=l.length:=by simp only [decide_eq_false_iff_not] at h; omega
   subst this
   simp -implicitDefEqProofs (maxSteps:=1000000) only [go_sem,mark_end]
def x_l_heldByteS:FnX:=⟨22,[.tmp 4],
  .q [.i 4 0]
 (.seq (.q [.i 5 0]
 (.block 0 (.loop [0,1,5] (.seq (.q [.m 6 5,.m 7 0,.n 8 7,.b 9 .lss 6 8]
 (.cond 9 .skip (.exit 0)))
 (.seq (.block 1 (.seq (.q [.m 12 0,.m 13 5,.x 14 1 12 13,.l 15 14,.m 16 1,.op 17 (.conv (.int .u8) (.t 16)),.b 18 .neq 15 17]
 (.c 18 (.q [.i 4 (-1)]
 .ret)))
 (.reg [.m 19 1,.B 20 .add 19 1,.m 1 20])))
 (.reg [.m 10 5,.B 11 .add 10 1,.m 5 11]))))))
 (.norm [1] (.q [.m 21 1,.m 4 21]
 .ret)))⟩
theorem r_l_heldByteS {Te:TE}:C_l_heldByteS (RF Te x_l_heldByteS):=by
 intro n k hl hk
 refine run0 ?_
 simp -implicitDefEqProofs (maxSteps:=1000000) (disch:=omega) only [x_l_heldByteS,go_sem,IntWalk.i64_in]
 refine loop_of (σ:=Nat) (fun i=>⟨[(0,.one (.ro 1 ((marks 1 mkU n k).map uR))),(1,.one (.pv (.int .i64 (k + (1 * i:Nat))))),(5,.one (.pv (.int .i64 i)))],[],[(0,[slT false 1 uR (marks 1 mkU n k)]),(1,[iT k])]⟩) (fun i=>i≤n) (fun i=>n - i) 0 ?_ (Nat.zero_le _) ?_
 ·simp -implicitDefEqProofs (maxSteps:=1000000) only [go_sem]; simp
 ·intro i hi
  simp -implicitDefEqProofs (maxSteps:=1000000) only [go_sem,marks_length]
  refine ⟨fun h=>?_,fun h=>?_⟩
  ·have hi':i < n:=by simp only [decide_eq_true_eq] at h; omega
   try simp -implicitDefEqProofs (maxSteps:=1000000) (disch:=omega) only [go_sem,marks_get 1 mkU k hi',IntWalk.i64_in,mkU_wrap,bne_self_eq_false,decide_true,Bool.not_true]
   refine ⟨i + 1,?_,hi',by omega⟩
   rw [show k + ((1 * (i + 1):Nat):Int)=k + (1 * i:Nat) + 1 by omega]
   rfl
  ·have:i=n:=by simp only [decide_eq_false_iff_not] at h; omega
   subst this
   simp -implicitDefEqProofs (maxSteps:=1000000) only [go_sem]
def x_i_joined:FnX:=⟨18,[.tmp 2],
  .q [.op 2 (.mv (.k (.one (.nils 1))))]
 (.q [.op 6 (.bslice 1 []),.m 3 6]
 (.seq (.q [.m 7 0,.n 8 7,.i 9 0]
 (.block 0 (.loop [3,7,8,9] (.q [.b 10 .lss 9 8]
 (.seq (.cond 10 .skip (.exit 0))
 (.seq (.block 1 (.q [.x 11 1 7 9,.l 12 11,.m 5 12]
 (.reg [.m 13 3,.m 14 5,.op 15 (.app 1 1 (.t 13) (.t 14)),.m 3 15])))
 (.reg [.B 16 .add 9 1,.m 9 16])))))))
 (.norm [3] (.q [.m 17 3,.m 2 17]
 .ret))))⟩
theorem r_i_joined {Te:TE}:C_i_joined (RF Te x_i_joined):=by
 intro ps h h2
 refine run0 ?_
 simp -implicitDefEqProofs (maxSteps:=1000000) only [x_i_joined,go_sem]
 refine loop_of (σ:=Nat×List UInt8) (fun x=>⟨[(3,.one (.rf 19 0 [] 1 0 x.2.length)),(7,.one (.ro 1 (ps.map (bytesR false)))),(8,.one (.pv (.int .i64 ps.length))),(9,.one (.pv (.int .i64 x.1)))],[],[(0,[slT false 1 (bytesR false) ps]),(19,[slT true 1 uR x.2])]⟩) (fun x=>x.1≤ps.length∧x.2=(ps.take x.1).flatten) (fun x=>ps.length - x.1) (0,[]) ?_ ⟨Nat.zero_le _,rfl⟩ ?_
 ·simp -implicitDefEqProofs (maxSteps:=1000000) only [go_sem]; rfl
 ·rintro ⟨i,a⟩ ⟨hi,he⟩
  simp only at hi he
  simp -implicitDefEqProofs (maxSteps:=1000000) only [go_sem]
  refine ⟨fun h=>?_,fun h=>?_⟩
  ·have hi':i < ps.length:=by simp only [decide_eq_true_eq] at h; omega
   simp -implicitDefEqProofs (maxSteps:=1000000) only [go_sem,List.getElem?_eq_getElem hi']
   have hlen:a.length + ps[i].length≤ps.flatten.length:=by
    rw [he,← List.length_append]
    have e:=List.take_succ_eq_append_getElem hi'
    have:(ps.take i).flatten++ps[i]=(ps.take (i + 1)).flatten:=by rw [e,List.flatten_append]; simp
    rw [this]
    have h5:ps.flatten=(ps.take (i + 1)).flatten++(ps.drop (i + 1)).flatten:=by rw [← List.flatten_append,List.take_append_drop]
    rw [h5,List.length_append]
    omega
   refine ⟨⟨decide_eq_true (by omega),decide_eq_true (by omega)⟩,(i + 1,a++ps[i]),?_,⟨hi',?_⟩,by simp only; omega⟩
   ·rw [IntWalk.i64_in _ (by omega)]
    rw [show List.map uR a++List.map uR ps[i]=List.map uR (a++ps[i]) from List.map_append.symm,show a.length + ps[i].length=(a++ps[i]).length from List.length_append.symm]
    rfl
   ·rw [he,List.take_succ_eq_append_getElem hi',List.flatten_append]
    simp
  ·have hle:ps.length≤i:=by simp only [decide_eq_false_iff_not] at h; omega
   rw [List.take_of_length_le hle] at he
   subst he
   simp -implicitDefEqProofs (maxSteps:=1000000) only [go_sem]
def x_i_Sum:FnX:=⟨29,[.tmp 2],
  .q [.i 2 0]
 (.q [.i 3 65535]
 (.seq (.q [.m 6 0,.n 7 6,.i 8 0]
 (.block 0 (.loop [3,6,7,8] (.q [.b 9 .lss 8 7]
 (.seq (.cond 9 .skip (.exit 0))
 (.seq (.block 1 (.q [.x 10 1 6 8,.l 11 10,.m 5 11]
 (.q [.m 12 3,.m 13 5,.op 14 (.conv (.int .i64) (.t 13)),.op 15 (.bin .mul (.i 256) (.t 14)),.b 16 .xor 12 15,.m 3 16]
 (.q [.i 17 0]
 (.block 2 (.loop [3,6,7,8,17] (.q [.B 18 .lss 17 8]
 (.seq (.cond 18 .skip (.exit 2))
 (.seq (.block 3 (.q [.m 19 3,.B 20 .mul 19 2,.m 3 20]
 (.q [.m 21 3,.B 22 .gtr 21 65535]
 (.c 22 (.reg [.m 23 3,.B 24 .xor 23 69665,.m 3 24])))))
 (.reg [.B 25 .add 17 1,.m 17 25]))))))))))
 (.norm [3,6,7,8] (.reg [.B 26 .add 8 1,.m 8 26]))))))))
 (.norm [3] (.q [.m 27 3,.B 28 .and 27 65535,.m 2 28]
 .ret))))⟩
theorem r_i_Sum {Te:TE}:C_i_Sum (RF Te x_i_Sum):=by
 intro l h
 refine run0 ?_
 simp -implicitDefEqProofs (maxSteps:=1000000) only [x_i_Sum,go_sem]
 refine loop_of (σ:=Nat×Nat) (fun x=>⟨[(3,.one (.pv (.int .i64 x.2))),(6,.one (.ro 1 (l.map uR))),(7,.one (.pv (.int .i64 l.length))),(8,.one (.pv (.int .i64 x.1)))],[],[(0,[slT false 1 uR l])]⟩) (fun x=>x.1≤l.length∧x.2 < 65536∧x.2=(l.take x.1).foldl sumByte 65535) (fun x=>l.length - x.1) (0,65535) ?_ ⟨Nat.zero_le _,by decide,rfl⟩ ?_
 ·simp -implicitDefEqProofs (maxSteps:=1000000) only [go_sem]; rfl
 ·rintro ⟨i,s⟩ ⟨hi,hs,he⟩
  simp only at hi hs he
  simp -implicitDefEqProofs (maxSteps:=1000000) only [go_sem]
  refine ⟨fun h=>?_,fun h=>?_⟩
  ·have hi':i < l.length:=by simp only [decide_eq_true_eq] at h; omega
   have hb:=l[i].toNat_lt
   have e1:IntKind.i64.wrap (l[i].toNat:Int)=(l[i].toNat:Int):=IntWalk.i64_in _ (by omega)
   have e2:IntKind.i64.wrap (256 * (l[i].toNat:Int))=((256 * l[i].toNat:Nat):Int):=by rw [IntWalk.i64_in _ (by omega)]; rfl
   simp -implicitDefEqProofs (maxSteps:=1000000) only [go_sem,List.getElem?_eq_getElem hi',e1,e2,xor_nat s (256 * l[i].toNat) (by omega) (by omega)]
   have hx:=sumX_lt l[i] hs
   have e9:sumByte s l[i]=sumBits 8 (s ^^^ (256 * l[i].toNat)):=rfl
   generalize s ^^^ (256 * l[i].toNat)=S at *
   refine loop_of (σ:=Nat×Nat) (fun x=>⟨[(3,.one (.pv (.int .i64 x.2))),(6,.one (.ro 1 (l.map uR))),(7,.one (.pv (.int .i64 l.length))),(8,.one (.pv (.int .i64 i))),(17,.one (.pv (.int .i64 x.1)))],[],[(0,[slT false 1 uR l])]⟩) (fun x=>x.1≤8∧x.2=sumBits x.1 S) (fun x=>8 - x.1) (0,S) ?_ ⟨Nat.zero_le _,rfl⟩ ?_
   ·simp -implicitDefEqProofs (maxSteps:=1000000) only [go_sem]; rfl
   ·rintro ⟨j,v⟩ ⟨hj,hv⟩
    simp only at hj hv
    have hz:v < 65536:=by rw [hv]; exact sumBits_lt j hx
    have e3:IntKind.i64.wrap ((v:Int) * 2)=((2 * v:Nat):Int):=by rw [IntWalk.i64_in _ (by omega)]; omega
    have e4:=xor_nat (2 * v) 69665 (by omega) (by decide)
    have e5:((69665:Nat):Int)=69665:=rfl
    rw [e5] at e4
    have e6:sumBits (j + 1) S=sumBit v:=by rw [hv]; rfl
    simp -implicitDefEqProofs (maxSteps:=1000000) only [go_sem]
    refine ⟨fun h=>?_,fun h=>?_⟩
    ·have hj':j < 8:=by simp only [decide_eq_true_eq] at h; omega
     simp -implicitDefEqProofs (maxSteps:=1000000) only [go_sem,e3]
     refine ⟨fun h6=>?_,fun h6=>?_⟩
     ·simp -implicitDefEqProofs (maxSteps:=1000000) only [go_sem,e4]
      refine ⟨(j + 1,2 * v ^^^ 69665),by rw [IntWalk.i64_in _ (by omega)]; rfl,⟨hj',?_⟩,by simp only; omega⟩
      rw [e6,sumBit,if_pos (by simp only [decide_eq_true_eq] at h6; omega)]
     ·refine ⟨(j + 1,2 * v),by rw [IntWalk.i64_in _ (by omega)]; rfl,⟨hj',?_⟩,by simp only; omega⟩
      rw [e6,sumBit,if_neg (by simp only [decide_eq_false_iff_not] at h6; omega)]
    ·have hj':j=8:=by simp only [decide_eq_false_iff_not] at h; omega
     subst hj'
     rw [← e9] at hv
     refine ⟨(i + 1,v),by rw [IntWalk.i64_in _ (by omega)]; rfl,⟨hi',hz,?_⟩,by simp only; omega⟩
     simp only
     rw [List.take_succ_eq_append_getElem hi',List.foldl_append,← he,hv,List.foldl_cons,List.foldl_nil]
  ·have hle:l.length≤i:=by simp only [decide_eq_false_iff_not] at h; omega
   rw [List.take_of_length_le hle] at he
   have e7:=and_nat s 65535 (by omega) (by decide)
   have e8:((65535:Nat):Int)=65535:=rfl
   rw [e8] at e7
   simp -implicitDefEqProofs (maxSteps:=1000000) only [go_sem,e7,sum,← he]
def x_s_Decode:FnX:=⟨35,[.tmp 4,.tmp 5],
  .q [.op 4 (.mv (.k (.one (.pv (.string ⟨#[]⟩))))),.F 5]
 (.q [.op 11 (.bslice 1 []),.m 6 11]
 (.seq (.q [.m 12 0,.c 13 65 [12],.N 14 13]
 (.c 14 (.q [.op 4 (.mv (.k (.one (.pv (.string ⟨#[]⟩))))),.F 5]
 .ret)))
 (.seq (.q [.i 7 0]
 (.block 0 (.loop [0,1,6,7] (.seq (.q [.m 15 7,.m 16 1,.n 17 16,.b 18 .lss 15 17]
 (.cond 18 .skip (.exit 0)))
 (.block 1 (.q [.m 20 0,.m 21 1,.m 22 7,.c 23 66 [20,21,22],.m 19 23,.e 24 19 0,.e 25 19 1,.e 26 19 2,.m 8 24,.m 9 25,.m 10 26]
 (.seq (.q [.m 27 10,.N 28 27]
 (.c 28 (.q [.op 4 (.mv (.k (.one (.pv (.string ⟨#[]⟩))))),.F 5]
 .ret)))
 (.q [.m 29 6,.m 30 8,.c 31 67 [29,30],.m 6 31]
 (.reg [.m 32 9,.m 7 32])))))))))
 (.norm [6] (.q [.m 33 6,.op 34 (.conv .b2s (.t 33)),.m 4 34,.T 5]
 .ret)))))⟩
theorem r_s_Decode {Te:TE} (c_s_l5Cs:C_s_l5Cs Te) (c_s_l5Get:C_s_l5Get Te) (c_s_PutSign:C_s_PutSign Te):C_s_Decode (RF Te x_s_Decode):=by
 intro cs b hb
 cases g:win cs 0 5
 ·have e:decode cs b=(⟨#[]⟩,false):=by rw [decode,g]; rfl
  refine X0 x_s_Decode.eq_1 ?_
  exact D2 (c_s_l5Cs _) g e
 ·have e:decode cs b=decGo cs b b.length 0 []:=by rw [decode,g]; rfl
  rw [e]
  generalize hD:decGo cs b b.length 0 []=D
  refine X0 x_s_Decode.eq_1 ?_
  refine C1 (c_s_l5Cs _) g ?_
  refine loop_of (σ:=Nat×Nat×List UInt8) (fun x=>⟨[(0,.one (.pv (.int .i64 cs))),(1,.one (.ro 1 (b.map uR))),(6,.one (.rf 37 0 [] 1 0 x.2.2.length)),(7,.one (.pv (.int .i64 x.2.1)))],[],[(0,[iT cs]),(1,[slT false 1 uR b]),(37,[slT true 1 uR x.2.2])]⟩) (fun x=>x.2.1≤b.length∧b.length≤x.1 + x.2.1∧x.2.2.length≤4 * x.2.1∧decGo cs b x.1 x.2.1 x.2.2=D) (fun x=>b.length - x.2.1) (b.length,0,[]) ?_ ⟨Nat.zero_le _,Nat.le_refl _,Nat.zero_le _,hD⟩ ?_
  ·simp -implicitDefEqProofs (maxSteps:=1000000) only [go_sem]
   try rfl
  ·rintro ⟨fu,i,out⟩ ⟨hi,hf,ho,hd⟩
   simp only at hi hf ho hd
   cases q:decide ((i:Int) < (b.length:Int))
   ·have hq:¬ (i:Int) < (b.length:Int):=by simpa using q
    rw [dec_end hq] at hd
    subst hd
    refine G1 q ?_
    refine ⟨areBytes_uR out,?_⟩
    rw [bytesOf_uD]
    try rfl
   ·have hq:(i:Int) < (b.length:Int):=by simpa using q
    obtain ⟨f,rfl⟩:∃ f,fu=f + 1:=⟨fu - 1,by omega⟩
    have hs:=c_s_l5Get cs b i (by omega) ⟨by omega,hq⟩
    cases g2:(signIn cs b i).2.2
    ·rw [dec_bad hq g2] at hd
     subst hd
     refine G1 q ?_
     exact D1 (hs) g2
    ·rw [dec_step hq g2] at hd
     have hn:=signIn_next ⟨by omega,hq⟩ g2
     generalize signIn cs b i=r at hs g2 hd hn
     obtain ⟨n,nx,ok⟩:=r
     simp only at hs g2 hd hn
     subst g2
     obtain ⟨j,rfl⟩:∃ j:Nat,nx=j:=⟨nx.toNat,by omega⟩
     have hl:=putSign_len out n
     refine G1 q ?_
     refine C0 (hs) ?_
     refine C0 (c_s_PutSign out n (by omega)) ?_
     exact ⟨(f,j,putSign out n),rfl,⟨by simp only; omega,by simp only; omega,by simp only; omega,hd⟩,by simp only; omega⟩
end Go.X

