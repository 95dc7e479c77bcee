/- Texts: CVe_2 CR_2 CVm CEc_13 CEb_3 CVla_2 CC_2 CVf CB_2 CK_3. -/
import Derived.Test.YtmmjaijeeeilcaaGreatDoorW04
set_option linter.unusedVariables false
set_option linter.unusedSimpArgs false
namespace Go.X
set_option maxRecDepth 100000
set_option maxHeartbeats 8000000
def x_i_RowOk:FnX:=⟨89,[.tmp 2],
  .q [.v 1 0,.F 2]
 (.seq (.q [.f 9 1 0,.l 10 9,.c 11 98 [10],.N 12 11,.m 13 12,.z 13 (.f 14 1 5),.z 13 (.l 15 14),.z 13 (.op 16 (.call 90 [0,0,0] [(.t 15),(.i 1),(.i 3)])),.z 13 (.N 17 16),.r 18 13 17]
 (.c 18 (.q [.F 2]
 .ret)))
 (.q [.f 20 1 1,.L 21 2 20,.c 22 177 [21],.m 19 22,.e 23 19 0,.e 24 19 1,.m 3 23,.m 4 24]
 (.q [.f 26 1 3,.L 27 2 26,.c 28 177 [27],.m 25 28,.e 29 25 0,.e 30 25 1,.m 5 29,.m 6 30]
 (.q [.f 31 1 1,.L 32 2 31,.op 33 (.build [.i 0,.nils 1] []),.c 34 173 [32,33],.m 7 34]
 (.seq (.q [.f 35 1 5,.l 36 35,.B 37 .neq 36 2]
 (.c 37 (.reg [.f 38 1 1,.L 39 2 38,.c 40 261 [39],.m 41 40,.y 41 (.f 42 1 1),.y 41 (.f 43 42 0),.y 41 (.l 44 43),.y 41 (.B 45 .neq 44 0),.a 46 41 45,.m 47 46,.y 47 (.m 48 4),.y 47 (.m 49 48),.z 49 (.f 50 1 6),.z 49 (.l 51 50),.z 49 (.m 52 51),.y 52 (.f 53 1 5),.y 52 (.l 54 53),.y 52 (.B 55 .eql 54 1),.z 49 (.a 56 52 55),.y 47 (.r 57 49 56),.a 58 47 57,.m 7 58])))
 (.q [.f 59 1 3,.L 60 2 59,.op 61 (.build [.i 0,.nils 1] []),.c 62 173 [60,61],.m 8 62]
 (.seq (.q [.f 63 1 5,.l 64 63,.B 65 .neq 64 1]
 (.c 65 (.reg [.f 66 1 3,.f 67 66 0,.l 68 67,.B 69 .eql 68 0,.m 70 69,.y 70 (.m 71 6),.a 72 70 71,.m 8 72])))
 (.q [.m 73 7,.m 74 73,.y 74 (.m 75 8),.a 76 74 75,.m 77 76,.y 77 (.f 78 1 5),.y 77 (.l 79 78),.y 77 (.B 80 .neq 79 3),.y 77 (.m 81 80),.z 81 (.f 82 1 1),.z 81 (.L 83 2 82),.z 81 (.f 84 1 3),.z 81 (.L 85 2 84),.z 81 (.c 86 305 [83,85]),.y 77 (.r 87 81 86),.a 88 77 87,.m 2 88]
 .ret))))))))⟩
theorem r_i_RowOk {Te:TE} (c_i_NameOk:C_i_NameOk Te) (c_i_within:C_i_within Te) (c_i_CellText:C_i_CellText Te) (c_i_sameCell:C_i_sameCell Te) (c_i_CellOk:C_i_CellOk Te) (c_i_SameText:C_i_SameText Te):C_i_RowOk (RF Te x_i_RowOk):=by
 intro r h
 obtain ⟨hk,_⟩:=h
 refine X0 x_i_RowOk.eq_1 ?_
 refine C0 (c_i_NameOk r.Key hk) ?_
 cases g1:nameOk r.Key
 ·have e:=rowOk_name (r:=r) g1
  exact F1 e
 refine G0 ?_
 refine C0 (c_i_within _ _ _) ?_
 cases g2:win r.Has 1 3
 ·have e:=rowOk_has (r:=r) g2
  exact F1 e
 have h3:=win13 g2
 obtain ⟨key,old,new,has,aside⟩:=r
 simp only at h3 g1 hk
 clear g2
 rcases h3 with rfl | rfl | rfl
 ·skip
  have e:=rowOk_1 (o:=old) (n:=new) (a:=aside) g1
  refine G0 ?_
  refine C0 (c_i_CellText old) ?_
  refine C0 (c_i_CellText new) ?_
  refine .of (c_i_sameCell old ⟨0,[]⟩) ?_
  try simp -implicitDefEqProofs (maxSteps:=1000000) only [go_sem,CellV.no]
  repeat refine ⟨sc,?_⟩
  try exact sf
  refine C0 (c_i_CellOk old) ?_
  have fin0:∀ z,z=false→True:=fun _ _=>trivial
  cases o1:old.ok
  ·refine G1 o1 ?_
   refine .of (c_i_sameCell new ⟨0,[]⟩) ?_
   try simp -implicitDefEqProofs (maxSteps:=1000000) only [go_sem,CellV.no,e,o1]
   repeat refine ⟨sc,?_⟩
   try exact sf
  ·cases o2:(old.Tag != 0)
   ·refine G2 o1 o2 ?_
    refine .of (c_i_sameCell new ⟨0,[]⟩) ?_
    try simp -implicitDefEqProofs (maxSteps:=1000000) only [go_sem,CellV.no,e,o1,o2]
    repeat refine ⟨sc,?_⟩
    try exact sf
   ·cases o3:old.text.2
    ·cases aside
     ·refine G3 o1 o2 o3 ?_
      refine .of (c_i_sameCell new ⟨0,[]⟩) ?_
      try simp -implicitDefEqProofs (maxSteps:=1000000) only [go_sem,CellV.no,e,o1,o2,o3]
      repeat refine ⟨sc,?_⟩
      try exact sf
     ·try simp -implicitDefEqProofs (maxSteps:=1000000) only [go_sem,o1,o2,o3,CellV.no]
      repeat refine ⟨sc,?_⟩
      try exact sf
      refine .of (c_i_sameCell new ⟨0,[]⟩) ?_
      try simp -implicitDefEqProofs (maxSteps:=1000000) only [go_sem,CellV.no]
      repeat refine ⟨sc,?_⟩
      try exact sf
      cases n1:((new.Tag==0)&&decide (new.B=[]))
      ·try simp -implicitDefEqProofs (maxSteps:=1000000) only [go_sem,n1,CellV.no,e,o1,o2,o3]
       repeat refine ⟨sc,?_⟩
       try exact sf
      ·try simp -implicitDefEqProofs (maxSteps:=1000000) only [go_sem,n1,CellV.no,e,o1,o2,o3]
       repeat refine ⟨sc,?_⟩
       try exact sf
    ·try simp -implicitDefEqProofs (maxSteps:=1000000) only [go_sem,o1,o2,o3,CellV.no]
     repeat refine ⟨sc,?_⟩
     try exact sf
     refine .of (c_i_sameCell new ⟨0,[]⟩) ?_
     try simp -implicitDefEqProofs (maxSteps:=1000000) only [go_sem,CellV.no]
     repeat refine ⟨sc,?_⟩
     try exact sf
     cases n1:((new.Tag==0)&&decide (new.B=[]))
     ·try simp -implicitDefEqProofs (maxSteps:=1000000) only [go_sem,n1,CellV.no,e,o1,o2,o3]
      repeat refine ⟨sc,?_⟩
      try exact sf
     ·try simp -implicitDefEqProofs (maxSteps:=1000000) only [go_sem,n1,CellV.no,e,o1,o2,o3]
      repeat refine ⟨sc,?_⟩
      try exact sf
 ·skip
  have e:=rowOk_2 (o:=old) (n:=new) (a:=aside) g1
  refine G0 ?_
  refine C0 (c_i_CellText old) ?_
  refine C0 (c_i_CellText new) ?_
  refine .of (c_i_sameCell old ⟨0,[]⟩) ?_
  try simp -implicitDefEqProofs (maxSteps:=1000000) only [go_sem,CellV.no]
  repeat refine ⟨sc,?_⟩
  try exact sf
  refine .of (c_i_sameCell new ⟨0,[]⟩) ?_
  try simp -implicitDefEqProofs (maxSteps:=1000000) only [go_sem,CellV.no]
  repeat refine ⟨sc,?_⟩
  try exact sf
  cases o1:((old.Tag==0)&&decide (old.B=[]))
  ·cases n1:(new.Tag==0)
   ·try simp -implicitDefEqProofs (maxSteps:=1000000) only [go_sem,o1,n1,e,CellV.no]
    repeat refine ⟨sc,?_⟩
    try exact sf
   ·try simp -implicitDefEqProofs (maxSteps:=1000000) only [go_sem,o1,n1,e,CellV.no]
    repeat refine ⟨sc,?_⟩
    try exact sf
  ·cases n1:(new.Tag==0)
   ·try simp -implicitDefEqProofs (maxSteps:=1000000) only [go_sem,o1,n1,e,CellV.no]
    repeat refine ⟨sc,?_⟩
    try exact sf
   ·cases n2:new.text.2
    ·try simp -implicitDefEqProofs (maxSteps:=1000000) only [go_sem,o1,n1,n2,e,CellV.no]
     repeat refine ⟨sc,?_⟩
     try exact sf
    ·try simp -implicitDefEqProofs (maxSteps:=1000000) only [go_sem,o1,n1,n2,e,CellV.no]
     repeat refine ⟨sc,?_⟩
     try exact sf
 ·skip
  have e:=rowOk_3 (o:=old) (n:=new) (a:=aside) g1
  refine G0 ?_
  refine C0 (c_i_CellText old) ?_
  refine C0 (c_i_CellText new) ?_
  refine .of (c_i_sameCell old ⟨0,[]⟩) ?_
  try simp -implicitDefEqProofs (maxSteps:=1000000) only [go_sem,CellV.no]
  repeat refine ⟨sc,?_⟩
  try exact sf
  refine C0 (c_i_CellOk old) ?_
  cases o1:old.ok
  ·refine G1 o1 ?_
   refine .of (c_i_sameCell new ⟨0,[]⟩) ?_
   try simp -implicitDefEqProofs (maxSteps:=1000000) only [go_sem,CellV.no]
   repeat refine ⟨sc,?_⟩
   try exact sf
   cases n1:(new.Tag==0)
   ·try simp -implicitDefEqProofs (maxSteps:=1000000) only [go_sem,n1,CellV.no,e,o1]
    repeat refine ⟨sc,?_⟩
    try exact sf
   ·try simp -implicitDefEqProofs (maxSteps:=1000000) only [go_sem,n1,CellV.no,e,o1]
    repeat refine ⟨sc,?_⟩
    try exact sf
  ·cases o2:(old.Tag != 0)
   ·refine G2 o1 o2 ?_
    refine .of (c_i_sameCell new ⟨0,[]⟩) ?_
    try simp -implicitDefEqProofs (maxSteps:=1000000) only [go_sem,CellV.no]
    repeat refine ⟨sc,?_⟩
    try exact sf
    cases n1:(new.Tag==0)
    ·try simp -implicitDefEqProofs (maxSteps:=1000000) only [go_sem,n1,CellV.no,e,o1,o2]
     repeat refine ⟨sc,?_⟩
     try exact sf
    ·try simp -implicitDefEqProofs (maxSteps:=1000000) only [go_sem,n1,CellV.no,e,o1,o2]
     repeat refine ⟨sc,?_⟩
     try exact sf
   ·cases o3:old.text.2
    ·cases aside
     ·try simp -implicitDefEqProofs (maxSteps:=1000000) only [go_sem,o1,o2,o3,CellV.no]
      repeat refine ⟨sc,?_⟩
      try exact sf
      refine .of (c_i_sameCell new ⟨0,[]⟩) ?_
      try simp -implicitDefEqProofs (maxSteps:=1000000) only [go_sem,CellV.no]
      repeat refine ⟨sc,?_⟩
      try exact sf
      cases n1:(new.Tag==0)
      ·try simp -implicitDefEqProofs (maxSteps:=1000000) only [go_sem,n1,CellV.no,e,o1,o2,o3]
       repeat refine ⟨sc,?_⟩
       try exact sf
      ·try simp -implicitDefEqProofs (maxSteps:=1000000) only [go_sem,n1,CellV.no,e,o1,o2,o3]
       repeat refine ⟨sc,?_⟩
       try exact sf
     ·try simp -implicitDefEqProofs (maxSteps:=1000000) only [go_sem,o1,o2,o3,CellV.no]
      repeat refine ⟨sc,?_⟩
      try exact sf
      refine .of (c_i_sameCell new ⟨0,[]⟩) ?_
      try simp -implicitDefEqProofs (maxSteps:=1000000) only [go_sem,CellV.no]
      repeat refine ⟨sc,?_⟩
      try exact sf
      cases n1:(new.Tag==0)
      ·try simp -implicitDefEqProofs (maxSteps:=1000000) only [go_sem,n1,CellV.no,e,o1,o2,o3]
       repeat refine ⟨sc,?_⟩
       try exact sf
      ·try simp -implicitDefEqProofs (maxSteps:=1000000) only [go_sem,n1,CellV.no,e,o1,o2,o3]
       repeat refine ⟨sc,?_⟩
       try exact sf
    ·try simp -implicitDefEqProofs (maxSteps:=1000000) only [go_sem,o1,o2,o3,CellV.no]
     repeat refine ⟨sc,?_⟩
     try exact sf
     refine .of (c_i_sameCell new ⟨0,[]⟩) ?_
     try simp -implicitDefEqProofs (maxSteps:=1000000) only [go_sem,CellV.no]
     repeat refine ⟨sc,?_⟩
     try exact sf
     cases n1:(new.Tag==0)
     ·try simp -implicitDefEqProofs (maxSteps:=1000000) only [go_sem,n1,CellV.no,e,o1,o2,o3]
      repeat refine ⟨sc,?_⟩
      try exact sf
     ·cases n2:new.text.2
      ·try simp -implicitDefEqProofs (maxSteps:=1000000) only [go_sem,n1,n2,CellV.no,e,o1,o2,o3]
       repeat refine ⟨sc,?_⟩
       try exact sf
      ·try simp -implicitDefEqProofs (maxSteps:=1000000) only [go_sem,n1,n2,CellV.no]
       repeat refine ⟨sc,?_⟩
       try exact sf
       refine .of (c_i_SameText old new) ?_
       try simp -implicitDefEqProofs (maxSteps:=1000000) only [go_sem,e,o1,o2,o3,n1,n2]
       repeat refine ⟨sc,?_⟩
       try exact sf
def x_s_l3Koi:FnX:=⟨28,[.tmp 2],
  .q [.i 2 0]
 (.q [.op 4 (.bslice 1 [(.i 1102),(.i 1072),(.i 1073),(.i 1094),(.i 1076),(.i 1077),(.i 1092),(.i 1075),(.i 1093),(.i 1080),(.i 1081),(.i 1082),(.i 1083),(.i 1084),(.i 1085),(.i 1086),(.i 1087),(.i 1103),(.i 1088),(.i 1089),(.i 1090),(.i 1091),(.i 1078),(.i 1074),(.i 1100),(.i 1099),(.i 1079),(.i 1096),(.i 1101),(.i 1097),(.i 1095),(.i 1098)]),.m 3 4]
 (.seq (.block 0 (.q [.m 6 0,.B 7 .geq 6 224,.m 5 7]
 (.cond 5 (.q [.m 8 3,.m 9 0,.B 10 .sub 9 224,.x 11 1 8 10,.l 12 11,.B 13 .sub 12 32,.m 2 13]
 .ret) (.q [.m 15 0,.B 16 .geq 15 192,.m 14 16]
 (.cond 14 (.q [.m 17 3,.m 18 0,.B 19 .sub 18 192,.x 20 1 17 19,.l 21 20,.m 2 21]
 .ret) (.q [.m 23 0,.B 24 .eql 23 163,.m 22 24]
 (.cond 22 (.q [.i 2 1105]
 .ret) (.q [.m 26 0,.B 27 .eql 26 179,.m 25 27]
 (.c 25 (.q [.i 2 1025]
 .ret))))))))))
 (.q [.i 2 (-1)]
 .ret)))⟩
theorem r_s_l3Koi {Te:TE}:C_s_l3Koi (RF Te x_s_l3Koi):=by
 intro b hb
 refine run0 ?_
 cases g1:decide (b≥224)
 ·cases g2:decide (b≥192)
  ·cases g3:(b==163)
   ·cases g4:(b==179)
    ·simp -implicitDefEqProofs (maxSteps:=1000000) only [x_s_l3Koi,go_sem,koi,g1,g2,g3,g4]
     repeat refine ⟨sc,?_⟩
     try exact sf
    ·simp -implicitDefEqProofs (maxSteps:=1000000) only [x_s_l3Koi,go_sem,koi,g1,g2,g3,g4]
     repeat refine ⟨sc,?_⟩
     try exact sf
   ·simp -implicitDefEqProofs (maxSteps:=1000000) only [x_s_l3Koi,go_sem,koi,g1,g2,g3]
    repeat refine ⟨sc,?_⟩
    try exact sf
  ·simp only [decide_eq_true_eq] at g2
   have e:IntKind.i64.wrap (b - 192)=b - 192:=IntWalk.i64_in _ (by omega)
   simp only [decide_eq_false_iff_not] at g1
   have hk:(b - 192).toNat < 32:=by omega
   have q1:=decide_eq_false g1
   have q2:=decide_eq_true g2
   simp -implicitDefEqProofs (maxSteps:=1000000) only [x_s_l3Koi,go_sem,koi,q1,q2,e,Nat.mul_one,List.getD_eq_getElem?_getD]
   repeat refine ⟨sc,?_⟩
   try exact sf
   try simp -implicitDefEqProofs (maxSteps:=1000000) only [go_sem,koi_row hk,q1,q2]
   repeat refine ⟨sc,?_⟩
   try exact sf
   try simp only [List.getD_eq_getElem?_getD]
 ·simp only [decide_eq_true_eq] at g1
  have e:IntKind.i64.wrap (b - 224)=b - 224:=IntWalk.i64_in _ (by omega)
  have hk:(b - 224).toNat < 32:=by omega
  have q1:=decide_eq_true g1
  have hv:=koi_in ⟨(b - 224).toNat,hk⟩
  have e2:IntKind.i64.wrap (koiL.getD (b - 224).toNat 0 - 32)=koiL.getD (b - 224).toNat 0 - 32:=IntWalk.i64_in _ (by simp only at hv; omega)
  simp -implicitDefEqProofs (maxSteps:=1000000) only [x_s_l3Koi,go_sem,koi,q1,e,Nat.mul_one,List.getD_eq_getElem?_getD]
  repeat refine ⟨sc,?_⟩
  try exact sf
  try simp -implicitDefEqProofs (maxSteps:=1000000) only [go_sem,koi_row hk,q1,e2]
  repeat refine ⟨sc,?_⟩
  try exact sf
  try simp only [List.getD_eq_getElem?_getD]
def x_i_winSign:FnX:=⟨12,[.tmp 2],
  .q [.i 2 0]
 (.q [.op 4 (.build [.i 0,.i 0,.i 0,.i 0,.i 0,.i 0,.i 0,.i 0,.i 0,.i 0,.i 0,.i 0,.i 0,.i 0,.i 0,.i 0,.i 0,.i 0,.i 0,.i 0,.i 0,.i 0,.i 0,.i 0,.i 0,.i 0,.i 0,.i 0,.i 0,.i 0,.i 0,.i 0] [(0,1,(.i 8364)),(1,1,(.i 0)),(2,1,(.i 8218)),(3,1,(.i 402)),(4,1,(.i 8222)),(5,1,(.i 8230)),(6,1,(.i 8224)),(7,1,(.i 8225)),(8,1,(.i 710)),(9,1,(.i 8240)),(10,1,(.i 352)),(11,1,(.i 8249)),(12,1,(.i 338)),(13,1,(.i 0)),(14,1,(.i 381)),(15,1,(.i 0)),(16,1,(.i 0)),(17,1,(.i 8216)),(18,1,(.i 8217)),(19,1,(.i 8220)),(20,1,(.i 8221)),(21,1,(.i 8226)),(22,1,(.i 8211)),(23,1,(.i 8212)),(24,1,(.i 732)),(25,1,(.i 8482)),(26,1,(.i 353)),(27,1,(.i 8250)),(28,1,(.i 339)),(29,1,(.i 0)),(30,1,(.i 382)),(31,1,(.i 376))]),.op 3 (.alloc [.i 0,.i 0,.i 0,.i 0,.i 0,.i 0,.i 0,.i 0,.i 0,.i 0,.i 0,.i 0,.i 0,.i 0,.i 0,.i 0,.i 0,.i 0,.i 0,.i 0,.i 0,.i 0,.i 0,.i 0,.i 0,.i 0,.i 0,.i 0,.i 0,.i 0,.i 0,.i 0]),.s 100001 32 3 4]
 (.seq (.q [.m 5 0,.B 6 .geq 5 160]
 (.c 6 (.q [.m 7 0,.m 2 7]
 .ret)))
 (.q [.m 8 0,.B 9 .sub 8 128,.op 10 (.aaddr 32 1 (.t 3) (.t 9)),.l 11 10,.m 2 11]
 .ret)))⟩
theorem r_i_winSign {Te:TE}:C_i_winSign (RF Te x_i_winSign):=by
 intro b hb
 refine run0 ?_
 cases g1:decide (b≥160)
 ·have e:IntKind.i64.wrap (b - 128)=b - 128:=IntWalk.i64_in _ (by omega)
  have hk:(b - 128).toNat < 32:=by simp only [decide_eq_false_iff_not] at g1; omega
  simp -implicitDefEqProofs (maxSteps:=1000000) only [x_i_winSign,go_sem,winB,g1,e,Nat.mul_one]
  repeat refine ⟨sc,?_⟩
  try exact sf
  try simp -implicitDefEqProofs (maxSteps:=1000000) only [go_sem,win_cel hk,g1]
  repeat refine ⟨sc,?_⟩
  try exact sf
 ·simp -implicitDefEqProofs (maxSteps:=1000000) only [x_i_winSign,go_sem,winB,g1]
  repeat refine ⟨sc,?_⟩
  try exact sf
def x_s_l3Win:FnX:=⟨13,[.tmp 2],
  .q [.i 2 0]
 (.q [.op 4 (.bslice 1 [(.i 8364),(.i (-1)),(.i 8218),(.i 402),(.i 8222),(.i 8230),(.i 8224),(.i 8225),(.i 710),(.i 8240),(.i 352),(.i 8249),(.i 338),(.i (-1)),(.i 381),(.i (-1)),(.i (-1)),(.i 8216),(.i 8217),(.i 8220),(.i 8221),(.i 8226),(.i 8211),(.i 8212),(.i 732),(.i 8482),(.i 353),(.i 8250),(.i 339),(.i (-1)),(.i 382),(.i 376)]),.m 3 4]
 (.seq (.q [.m 5 0,.B 6 .geq 5 160]
 (.c 6 (.q [.m 7 0,.m 2 7]
 .ret)))
 (.q [.m 8 3,.m 9 0,.B 10 .sub 9 128,.x 11 1 8 10,.l 12 11,.m 2 12]
 .ret)))⟩
theorem r_s_l3Win {Te:TE}:C_s_l3Win (RF Te x_s_l3Win):=by
 intro b hb
 refine run0 ?_
 cases g1:decide (b≥160)
 ·have e:IntKind.i64.wrap (b - 128)=b - 128:=IntWalk.i64_in _ (by omega)
  have hk:(b - 128).toNat < 32:=by simp only [decide_eq_false_iff_not] at g1; omega
  simp -implicitDefEqProofs (maxSteps:=1000000) only [x_s_l3Win,go_sem,winB,g1,e,Nat.mul_one,List.getD_eq_getElem?_getD]
  repeat refine ⟨sc,?_⟩
  try exact sf
  try simp -implicitDefEqProofs (maxSteps:=1000000) only [go_sem,win_row hk,g1]
  repeat refine ⟨sc,?_⟩
  try exact sf
  try simp only [List.getD_eq_getElem?_getD]
 ·simp -implicitDefEqProofs (maxSteps:=1000000) only [x_s_l3Win,go_sem,winB,g1]
  repeat refine ⟨sc,?_⟩
  try exact sf
def x_i_sectorOf:FnX:=⟨11,[.tmp 4],
  .q [.i 4 0]
 (.q [.m 5 0,.B 6 .rem 5 2,.op 7 (.bin .mul (.i 30) (.t 6)),.op 8 (.bin .add (.i 2) (.t 7)),.m 9 1,.b 10 .add 8 9,.m 4 10]
 .ret)⟩
theorem r_i_sectorOf {Te:TE}:C_i_sectorOf (RF Te x_i_sectorOf):=by
 intro gen place
 refine X0 x_i_sectorOf.eq_1 ?_
 try rfl
def x_s_l13At:FnX:=⟨11,[.tmp 4],
  .q [.i 4 0]
 (.q [.m 5 0,.B 6 .rem 5 2,.op 7 (.bin .mul (.i 30) (.t 6)),.op 8 (.bin .add (.i 2) (.t 7)),.m 9 1,.b 10 .add 8 9,.m 4 10]
 .ret)⟩
theorem r_s_l13At {Te:TE}:C_s_l13At (RF Te x_s_l13At):=by
 intro gen place
 refine X0 x_s_l13At.eq_1 ?_
 try rfl
def x_i_laid:FnX:=⟨38,[.cell 6 (some 4)],
  .q [.v 3 0,.op 6 (.alloc [.nils 1,.nils 2,.i 0,.F])]
 (.seq (.q [.m 9 2,.n 10 9,.i 11 0]
 (.block 0 (.loop [1,2,3,6,9,10,11] (.q [.b 12 .lss 11 10]
 (.seq (.cond 12 .skip (.exit 0))
 (.seq (.block 1 (.q [.m 13 11,.x 14 13 9 11,.L 15 13 14,.op 8 (.alloc [.i 0,.e,.i 0,.nils 1,.i 0,.nils 1,.i 0,.F,.e,.i 0,.i 0,.i 0,.i 0]),.m 7 13,.s 100001 13 8 15]
 (.draw [.L 16 4 3,.m 17 1,.m 18 7,.c 19 258 [17,18],.m 20 1,.m 21 7,.L 22 13 8,.c 23 259 [20,21,22],.c 24 257 [16,19,23],.s 100002 4 3 24] [[],[],[],[1,2],[],[],[],[4,5,6,3],[0,3,7,7],[8,8,0,1,2,3,4,5,6,7,8]])))
 (.reg [.B 25 .add 11 1,.m 11 25])))))))
 (.norm [1,2,3,6] (.q [.L 26 4 3,.c 27 260 [26],.s 100003 4 3 27]
 (.seq (.draw [.L 28 4 3,.m 29 1,.B 30 .rem 29 2,.m 31 1,.m 32 2,.n 33 32,.c 34 293 [31,33],.c 35 257 [28,30,34],.s 100004 4 3 35] [[],[],[1],[],[],[4],[3,5],[0,2,6,6],[7,7,0,1,2,3,4,5,6,7]])
 (.q [.L 36 4 3,.c 37 260 [36],.s 100005 4 6 37]
 .ret)))))⟩
theorem r_i_laid {Te:TE} (c_i_sectorOf:C_i_sectorOf Te) (c_i_PutRec:C_i_PutRec Te) (c_i_WriteSec:C_i_WriteSec Te) (c_i_FlushDev:C_i_FlushDev Te) (c_i_HeadOf:C_i_HeadOf Te):C_i_laid (RF Te x_i_laid):=by
 intro d gen recs hd hr
 have hrl:=hr.1
 refine X0 x_i_laid.eq_1 ?_
 refine loop_of (σ:=Bool×Nat×DevV) (fun x=>cond x.1 (⟨[(1,.one (.pv (.int .i64 gen))),(2,.one (.ro 13 (recs.map (RecV.enc false)))),(3,.bp 3 0),(6,.bp 6 0),(9,.one (.ro 13 (recs.map (RecV.enc false)))),(10,.one (.pv (.int .i64 recs.length))),(11,.one (.pv (.int .i64 x.2.1)))],[(3,[.rf 41 0 [] 1 0 x.2.2.Secs.length,.rf 41 1 [] 2 0 x.2.2.Cache.length,.pv (.int .i64 x.2.2.Fuse),.pv (.bool x.2.2.Down)]),(6,[.nils 1,.nils 2,.pv (.int .i64 0),.pv (.bool false)])],[(0,d.enc false),(1,[iT gen]),(2,[slT false 13 (RecV.enc false) recs]),(41,x.2.2.enc true)]⟩) (⟨[(1,.one (.pv (.int .i64 gen))),(2,.one (.ro 13 (recs.map (RecV.enc false)))),(3,.bp 3 0),(6,.bp 6 0),(9,.one (.ro 13 (recs.map (RecV.enc false)))),(10,.one (.pv (.int .i64 recs.length))),(11,.one (.pv (.int .i64 x.2.1)))],[(3,[.ro 1 (x.2.2.Secs.map (secR false)),.ro 2 (x.2.2.Cache.map (WrV.enc false)),.pv (.int .i64 x.2.2.Fuse),.pv (.bool x.2.2.Down)]),(6,[.nils 1,.nils 2,.pv (.int .i64 0),.pv (.bool false)])],[(0,d.enc false),(1,[iT gen]),(2,[slT false 13 (RecV.enc false) recs])]⟩)) (fun x=>x.2.1≤recs.length∧x.2.2=layN gen recs d x.2.1∧x.2.2.ok=true∧(x.1=false→x.2.1=0)) (fun x=>recs.length - x.2.1) (false,0,d) ?_ ⟨Nat.zero_le _,rfl,hd,fun _=>rfl⟩ ?_
 ·simp -implicitDefEqProofs (maxSteps:=1000000) only [go_sem]
  try rfl
 ·rintro ⟨b,i,D⟩ ⟨hi,hD,hk,hb⟩
  simp only at hi hD hk hb
  cases b
  ·cases q:decide ((i:Int) < (recs.length:Int))
   ·skip
    have k0:i=recs.length:=by simp only [decide_eq_false_iff_not] at q; omega
    have e:((D.flush).write (gen.tmod 2) (headOf gen recs.length)).flush=layDev gen recs d:=by rw [hD,k0]; rfl
    have hh:=headOf_len gen recs.length
    have f1:=flush_ok hk
    have f2:=write_ok f1 (gen.tmod 2) (headOf gen recs.length)
    refine G1 q ?_
    refine C0 (c_i_FlushDev D hk) ?_
    refine C0 (c_i_HeadOf _ _) ?_
    refine .of (c_i_WriteSec D.flush _ _ f1 (by omega)) ?_
    try simp -implicitDefEqProofs (maxSteps:=1000000) only [go_sem,take_all]
    repeat refine ⟨sc,?_⟩
    try exact sf
    refine .of (c_i_FlushDev _ f2) ?_
    try simp -implicitDefEqProofs (maxSteps:=1000000) only [go_sem,take_all,e,DevV.enc]
    repeat refine ⟨sc,?_⟩
    try exact sf
    try rfl
   ·skip
    have k1:i < recs.length:=by simp only [decide_eq_true_eq] at q; omega
    have hp:=putRec_len gen i recs[i]
    have hin:=hr.2 _ (List.getElem_mem k1)
    have es:=layN_step gen d k1
    rw [← hD] at es
    refine G2 q (List.getElem?_eq_getElem k1) ?_
    refine C0 (c_i_sectorOf _ _) ?_
    refine C0 (c_i_PutRec _ _ recs[i] hin) ?_
    refine .of (c_i_WriteSec D _ _ hk (by omega)) ?_
    try simp -implicitDefEqProofs (maxSteps:=1000000) only [go_sem,take_all]
    repeat refine ⟨sc,?_⟩
    try exact sf
    refine ⟨(true,i + 1,D.write (secOf gen i) (putRec gen i recs[i])),?_,⟨k1,es,write_ok hk _ _,fun h=>by cases h⟩,by simp only; omega⟩
    rw [IntWalk.i64_in _ (by omega)]
    rfl
  ·cases q:decide ((i:Int) < (recs.length:Int))
   ·skip
    have k0:i=recs.length:=by simp only [decide_eq_false_iff_not] at q; omega
    have e:((D.flush).write (gen.tmod 2) (headOf gen recs.length)).flush=layDev gen recs d:=by rw [hD,k0]; rfl
    have hh:=headOf_len gen recs.length
    have f1:=flush_ok hk
    have f2:=write_ok f1 (gen.tmod 2) (headOf gen recs.length)
    refine G1 q ?_
    refine C0 (c_i_FlushDev D hk) ?_
    refine C0 (c_i_HeadOf _ _) ?_
    refine .of (c_i_WriteSec D.flush _ _ f1 (by omega)) ?_
    try simp -implicitDefEqProofs (maxSteps:=1000000) only [go_sem,take_all]
    repeat refine ⟨sc,?_⟩
    try exact sf
    refine .of (c_i_FlushDev _ f2) ?_
    try simp -implicitDefEqProofs (maxSteps:=1000000) only [go_sem,take_all,e,DevV.enc]
    repeat refine ⟨sc,?_⟩
    try exact sf
    try rfl
   ·skip
    have k1:i < recs.length:=by simp only [decide_eq_true_eq] at q; omega
    have hp:=putRec_len gen i recs[i]
    have hin:=hr.2 _ (List.getElem_mem k1)
    have es:=layN_step gen d k1
    rw [← hD] at es
    refine G2 q (List.getElem?_eq_getElem k1) ?_
    refine C0 (c_i_sectorOf _ _) ?_
    refine C0 (c_i_PutRec _ _ recs[i] hin) ?_
    refine .of (c_i_WriteSec D _ _ hk (by omega)) ?_
    try simp -implicitDefEqProofs (maxSteps:=1000000) only [go_sem,take_all]
    repeat refine ⟨sc,?_⟩
    try exact sf
    refine ⟨(true,i + 1,D.write (secOf gen i) (putRec gen i recs[i])),?_,⟨k1,es,write_ok hk _ _,fun h=>by cases h⟩,by simp only; omega⟩
    rw [IntWalk.i64_in _ (by omega)]
    rfl
def x_l_heldWorld:FnX:=⟨42,[.tmp 4],
  .q [.v 2 0,.i 4 0]
 (.q [.f 5 2 0,.L 6 4 5,.m 7 1,.c 8 151 [6,7],.m 1 8]
 (.seq (.q [.m 9 1,.B 10 .lss 9 0]
 (.c 10 (.q [.i 4 (-1)]
 .ret)))
 (.q [.f 11 2 4,.l 12 11,.m 13 1,.c 14 152 [12,13],.m 1 14]
 (.seq (.q [.m 15 1,.B 16 .lss 15 0]
 (.c 16 (.q [.i 4 (-1)]
 .ret)))
 (.q [.f 17 2 5,.l 18 17,.m 19 1,.c 20 153 [18,19],.m 1 20]
 (.seq (.q [.m 21 1,.B 22 .lss 21 0]
 (.c 22 (.q [.i 4 (-1)]
 .ret)))
 (.q [.f 23 2 6,.l 24 23,.m 25 1,.c 26 154 [24,25],.m 1 26]
 (.seq (.q [.m 27 1,.B 28 .lss 27 0]
 (.c 28 (.q [.i 4 (-1)]
 .ret)))
 (.q [.f 29 2 7,.l 30 29,.m 31 1,.c 32 54 [30,31],.m 1 32]
 (.seq (.q [.m 33 1,.B 34 .lss 33 0]
 (.c 34 (.q [.i 4 (-1)]
 .ret)))
 (.q [.f 35 2 8,.l 36 35,.m 37 1,.c 38 155 [36,37],.m 1 38]
 (.seq (.q [.m 39 1,.B 40 .lss 39 0]
 (.c 40 (.q [.i 4 (-1)]
 .ret)))
 (.q [.m 41 1,.m 4 41]
 .ret)))))))))))))⟩
theorem r_l_heldWorld {Te:TE} (c_l_heldLead:C_l_heldLead Te) (c_l_heldNodeS:C_l_heldNodeS Te) (c_l_heldClientS:C_l_heldClientS Te) (c_l_heldMsgS:C_l_heldMsgS Te) (c_l_heldActS:C_l_heldActS Te) (c_l_heldActSS:C_l_heldActSS Te):C_l_heldWorld (RF Te x_l_heldWorld):=by
 intro x k hx hk hf
 refine run0 ?_
 obtain ⟨h0,h1,h2,h3,h4,h5⟩:=hx
 replace hf:(farL (fun y k=>k + (6 * y.length:Nat)) x.Maybe ((((farL ClientV.farE x.Clients ((farL NodeV.farE x.Nodes ((x.L.far k))))) + (8 * x.Net.length:Nat)) + (6 * x.Log.length:Nat))))≤2 ^ 40:=hf
 have w0:k≤(x.L.far k):=by simp only [Lead.far]; omega
 have w1:=farL_mono h1.2 monoNodeS (x.L.far k)
 have w2:=farL_mono h2.2 monoClientS (farL NodeV.farE x.Nodes ((x.L.far k)))
 have w3:(farL ClientV.farE x.Clients ((farL NodeV.farE x.Nodes ((x.L.far k)))))≤((farL ClientV.farE x.Clients ((farL NodeV.farE x.Nodes ((x.L.far k))))) + (8 * x.Net.length:Nat)):=by omega
 have w4:((farL ClientV.farE x.Clients ((farL NodeV.farE x.Nodes ((x.L.far k))))) + (8 * x.Net.length:Nat))≤(((farL ClientV.farE x.Clients ((farL NodeV.farE x.Nodes ((x.L.far k))))) + (8 * x.Net.length:Nat)) + (6 * x.Log.length:Nat)):=by omega
 have w5:=farL_mono h5.2 monoActSS (((farL ClientV.farE x.Clients ((farL NodeV.farE x.Nodes ((x.L.far k))))) + (8 * x.Net.length:Nat)) + (6 * x.Log.length:Nat))
 simp -implicitDefEqProofs (maxSteps:=1000000) only [x_l_heldWorld,go_sem]
 refine .of (c_l_heldLead _ _ h0 (by omega)) ?_
 simp -implicitDefEqProofs (maxSteps:=1000000) only [go_sem]
 refine ⟨fun q=>by simp only [decide_eq_true_eq] at q; omega,fun _=>?_⟩
 refine .of (c_l_heldNodeS x.Nodes _ h1 (by omega) (by omega)) ?_
 simp -implicitDefEqProofs (maxSteps:=1000000) only [go_sem]
 refine ⟨fun q=>by simp only [decide_eq_true_eq] at q; omega,fun _=>?_⟩
 refine .of (c_l_heldClientS x.Clients _ h2 (by omega) (by omega)) ?_
 simp -implicitDefEqProofs (maxSteps:=1000000) only [go_sem]
 refine ⟨fun q=>by simp only [decide_eq_true_eq] at q; omega,fun _=>?_⟩
 refine .of (c_l_heldMsgS x.Net.length _ (Nat.le_trans h3 (by decide)) (by omega)) ?_
 simp -implicitDefEqProofs (maxSteps:=1000000) only [go_sem]
 refine ⟨fun q=>by simp only [decide_eq_true_eq] at q; omega,fun _=>?_⟩
 refine .of (c_l_heldActS x.Log.length _ (Nat.le_trans h4 (by decide)) (by omega)) ?_
 simp -implicitDefEqProofs (maxSteps:=1000000) only [go_sem]
 refine ⟨fun q=>by simp only [decide_eq_true_eq] at q; omega,fun _=>?_⟩
 refine .of (c_l_heldActSS x.Maybe _ h5 (by omega) (by omega)) ?_
 simp -implicitDefEqProofs (maxSteps:=1000000) only [go_sem]
 refine ⟨fun q=>by simp only [decide_eq_true_eq] at q; omega,fun _=>?_⟩
 rfl
def x_l_heldRowS:FnX:=⟨83,[.tmp 4],
  .q [.i 4 0]
 (.seq (.q [.i 5 0]
 (.block 0 (.loop [0,1,5] (.seq (.q [.m 6 5,.m 7 0,.n 8 7,.b 9 .lss 6 8]
 (.cond 9 .skip (.exit 0)))
 (.seq (.block 1 (.seq (.seq (.draw [.m 12 0,.m 13 5,.x 14 7 12 13,.f 15 14 0,.l 16 15,.m 17 1,.c 18 146 [17],.b 19 .neq 16 18] [[],[],[0,1],[2],[3],[],[5],[4,6]])
 (.c 19 (.q [.i 4 (-1)]
 .ret)))
 (.q [.m 20 1,.B 21 .add 20 1,.m 1 21]
 (.seq (.q [.m 22 0,.m 23 5,.x 24 7 22 23,.f 25 24 1,.f 26 25 0,.l 27 26,.m 28 1,.b 29 .neq 27 28]
 (.c 29 (.q [.i 4 (-1)]
 .ret)))
 (.q [.m 30 1,.B 31 .add 30 1,.m 1 31]
 (.q [.m 32 0,.m 33 5,.x 34 7 32 33,.f 35 34 1,.f 36 35 1,.l 37 36,.m 38 1,.c 39 301 [37,38],.m 1 39]
 (.seq (.q [.m 40 1,.B 41 .lss 40 0]
 (.c 41 (.q [.i 4 (-1)]
 .ret)))
 (.seq (.q [.m 42 0,.m 43 5,.x 44 7 42 43,.f 45 44 3,.f 46 45 0,.l 47 46,.m 48 1,.b 49 .neq 47 48]
 (.c 49 (.q [.i 4 (-1)]
 .ret)))
 (.q [.m 50 1,.B 51 .add 50 1,.m 1 51]
 (.q [.m 52 0,.m 53 5,.x 54 7 52 53,.f 55 54 3,.f 56 55 1,.l 57 56,.m 58 1,.c 59 301 [57,58],.m 1 59]
 (.seq (.q [.m 60 1,.B 61 .lss 60 0]
 (.c 61 (.q [.i 4 (-1)]
 .ret)))
 (.seq (.q [.m 62 0,.m 63 5,.x 64 7 62 63,.f 65 64 5,.l 66 65,.m 67 1,.b 68 .neq 66 67]
 (.c 68 (.q [.i 4 (-1)]
 .ret)))
 (.q [.m 69 1,.B 70 .add 69 1,.m 1 70]
 (.seq (.q [.m 71 0,.m 72 5,.x 73 7 71 72,.f 74 73 6,.l 75 74,.m 76 1,.B 77 .rem 76 3,.B 78 .eql 77 0,.op 79 (.beq true (.t 75) (.t 78))]
 (.c 79 (.q [.i 4 (-1)]
 .ret)))
 (.reg [.m 80 1,.B 81 .add 80 1,.m 1 81])))))))))))))))
 (.reg [.m 10 5,.B 11 .add 10 1,.m 5 11]))))))
 (.norm [1] (.q [.m 82 1,.m 4 82]
 .ret)))⟩
theorem r_l_heldRowS {Te:TE} (c_l_markText:C_l_markText Te) (c_l_heldByteS:C_l_heldByteS Te):C_l_heldRowS (RF Te x_l_heldRowS):=by
 intro l k hl hk
 refine run0 ?_
 have hl1:=hl.1
 simp -implicitDefEqProofs (maxSteps:=1000000) (disch:=omega) only [x_l_heldRowS,go_sem,IntWalk.i64_in]
 refine loop_of (σ:=Nat) (fun i=>⟨[(0,.one (.ro 7 ((markL RowV.markE RowV.farE l k).map (RowV.enc false)))),(1,.one (.pv (.int .i64 (farL RowV.farE (l.take i) k)))),(5,.one (.pv (.int .i64 i)))],[],[(0,[slT false 7 (RowV.enc false) (markL RowV.markE RowV.farE l k)]),(1,[iT k])]⟩) (fun i=>i≤l.length) (fun i=>l.length - i) 0 ?_ (Nat.zero_le _) ?_
 ·simp -implicitDefEqProofs (maxSteps:=1000000) only [go_sem]; simp [farL]
 ·intro i hi
  simp -implicitDefEqProofs (maxSteps:=1000000) only [go_sem,markL_length]
  refine ⟨fun h=>?_,fun h=>?_⟩
  ·have hi':i < l.length:=by simp only [decide_eq_true_eq] at h; omega
   have hb:k≤farL RowV.farE (l.take i) k∧farL RowV.farE (l.take i) k≤k + 8796103507968:=by
    have q:=farL_le (n:=2 ^ 21) (k:=k) (c:=4194309) (l:=l.take i) ⟨by rw [List.length_take]; omega,fun y hy=>hl.2 y (List.mem_of_mem_take hy)⟩ (fun y hy k=>RowV.farE_le hy k)
    omega
   have he:=hl.2 _ (List.getElem_mem hi')
   have hget:=markL_get RowV.markE RowV.farE l k hi'
   have hnext:=farL_take RowV.farE l k hi'
   have e0:l[i].Old.B.length≤2 ^ 21:=he.1
   have e1:l[i].New.B.length≤2 ^ 21:=he.2
   generalize farL RowV.farE (l.take i) k=j at hb hget hnext ⊢
   simp only [RowV.markE] at hget
   try simp -implicitDefEqProofs (maxSteps:=1000000) (disch:=omega) only [go_sem,hget,IntWalk.i64_in,mkB,bne_self_eq_false,decide_true,Bool.not_true]
   repeat (refine ⟨by decide,?_⟩)
   refine .of (c_l_markText _ (by omega)) ?_
   simp -implicitDefEqProofs (maxSteps:=1000000) (disch:=omega) only [go_sem,hget,IntWalk.i64_in,mkB,bne_self_eq_false,decide_true,Bool.not_true]
   repeat (refine ⟨by decide,?_⟩)
   refine .of (c_l_heldByteS (l[i].Old.B.length) _ (by omega) (by omega)) ?_
   simp -implicitDefEqProofs (maxSteps:=1000000) (disch:=omega) only [go_sem,hget,IntWalk.i64_in,mkB,bne_self_eq_false,decide_true,Bool.not_true]
   refine ⟨fun q=>by simp only [decide_eq_true_eq] at q; omega,fun _=>?_⟩
   try simp -implicitDefEqProofs (maxSteps:=1000000) (disch:=omega) only [go_sem,hget,IntWalk.i64_in,mkB,bne_self_eq_false,decide_true,Bool.not_true]
   repeat (refine ⟨by decide,?_⟩)
   refine .of (c_l_heldByteS (l[i].New.B.length) _ (by omega) (by omega)) ?_
   simp -implicitDefEqProofs (maxSteps:=1000000) (disch:=omega) only [go_sem,hget,IntWalk.i64_in,mkB,bne_self_eq_false,decide_true,Bool.not_true]
   refine ⟨fun q=>by simp only [decide_eq_true_eq] at q; omega,fun _=>?_⟩
   try simp -implicitDefEqProofs (maxSteps:=1000000) (disch:=omega) only [go_sem,hget,IntWalk.i64_in,mkB,bne_self_eq_false,decide_true,Bool.not_true]
   repeat (refine ⟨by decide,?_⟩)
   refine ⟨i + 1,?_,hi',by omega⟩
   rw [hnext]
   rfl
  ·have:i=l.length:=by simp only [decide_eq_false_iff_not] at h; omega
   subst this
   simp -implicitDefEqProofs (maxSteps:=1000000) only [go_sem,List.take_length]
def x_l_toMark:FnX:=⟨14,[.cell 2 (some 3)],
  .q [.v 1 0,.op 2 (.alloc [.i 0,.i 0,.i 0])]
 (.q [.op 3 (.alloc [.i 0,.i 0,.i 0])]
 (.q [.f 4 1 0,.l 5 4,.f 6 3 0,.s 100001 1 6 5]
 (.q [.f 7 1 1,.l 8 7,.f 9 3 1,.s 100002 1 9 8]
 (.q [.f 10 1 2,.l 11 10,.f 12 3 2,.s 100003 1 12 11]
 (.q [.L 13 3 3,.s 100004 3 2 13]
 .ret)))))⟩
theorem r_l_toMark {Te:TE}:C_l_toMark (RF Te x_l_toMark):=by
 intro x
 refine run0 ?_
 simp -implicitDefEqProofs (maxSteps:=1000000) only [x_l_toMark,go_sem]
def x_l_eqMark:FnX:=⟨20,[.tmp 4],
  .q [.v 2 0,.v 3 1,.F 4]
 (.seq (.q [.f 5 2 0,.l 6 5,.f 7 3 0,.l 8 7,.b 9 .neq 6 8]
 (.c 9 (.q [.F 4]
 .ret)))
 (.seq (.q [.f 10 2 1,.l 11 10,.f 12 3 1,.l 13 12,.b 14 .neq 11 13]
 (.c 14 (.q [.F 4]
 .ret)))
 (.seq (.q [.f 15 2 2,.l 16 15,.f 17 3 2,.l 18 17,.b 19 .neq 16 18]
 (.c 19 (.q [.F 4]
 .ret)))
 (.q [.T 4]
 .ret))))⟩
theorem r_l_eqMark {Te:TE}:C_l_eqMark (RF Te x_l_eqMark):=by
 intro x y
 refine run0 ?_
 have key:(x=y)↔x.Who=y.Who∧x.Seq=y.Seq∧x.Code=y.Code:=by cases x; cases y; simp
 simp only [key]
 clear key
 simp -implicitDefEqProofs (maxSteps:=1000000) only [x_l_eqMark,go_sem]
 refine ⟨fun q=>?_,fun q=>?_⟩
 ·have n0:¬ (x.Who=y.Who):=by simpa using q
  simp only [n0,false_and,and_false,true_and,decide_false]
 have e0:x.Who=y.Who:=by simpa using q
 clear q
 refine ⟨fun q=>?_,fun q=>?_⟩
 ·have n1:¬ (x.Seq=y.Seq):=by simpa using q
  simp only [e0,n1,false_and,and_false,true_and,decide_false]
 have e1:x.Seq=y.Seq:=by simpa using q
 clear q
 refine ⟨fun q=>?_,fun q=>?_⟩
 ·have n2:¬ (x.Code=y.Code):=by simpa using q
  simp only [e0,e1,n2,false_and,and_false,true_and,decide_false]
 have e2:x.Code=y.Code:=by simpa using q
 clear q
 simp only [e0,e1,e2,true_and,and_true,decide_true]
def x_l_szMarkS:FnX:=⟨12,[.tmp 4],
  .q [.i 4 0]
 (.q [.m 5 1,.m 6 0,.n 7 6,.b 8 .sub 5 7,.m 1 8]
 (.seq (.q [.m 9 1,.B 10 .lss 9 0]
 (.c 10 (.q [.i 4 (-1)]
 .ret)))
 (.q [.m 11 1,.m 4 11]
 .ret)))⟩
theorem r_l_szMarkS {Te:TE}:C_l_szMarkS (RF Te x_l_szMarkS):=by
 intro l k hl hk
 refine run0 ?_
 simp -implicitDefEqProofs (maxSteps:=1000000) (disch:=omega) only [x_l_szMarkS,go_sem,IntWalk.i64_in]
 refine ⟨fun h=>?_,fun h=>?_⟩
 ·simp only [decide_eq_true_eq] at h
  simp only [left,if_pos h]
 ·simp only [decide_eq_false_iff_not] at h
  simp only [left,if_neg h]
def x_s_l10Flush:FnX:=⟨46,[],
  .seq (.q [.m 3 0,.op 4 (.nilc (.t 3)),.f 5 4 3,.l 6 5,.m 7 6,.z 7 (.m 8 0),.z 7 (.op 9 (.call 281 [6] [(.t 8)])),.z 7 (.N 10 9),.r 11 7 10]
 (.c 11 .ret))
 (.seq (.q [.i 2 0]
 (.block 0 (.loop [0,2] (.seq (.q [.m 12 2,.m 13 0,.op 14 (.nilc (.t 13)),.f 15 14 1,.l 16 15,.n 17 16,.b 18 .lss 12 17]
 (.cond 18 .skip (.exit 0)))
 (.seq (.block 1 (.draw [.m 21 0,.op 22 (.nilc (.t 21)),.f 23 22 0,.l 24 23,.m 25 0,.op 26 (.nilc (.t 25)),.f 27 26 1,.l 28 27,.m 29 2,.x 30 2 28 29,.f 31 30 0,.l 32 31,.m 33 0,.op 34 (.nilc (.t 33)),.f 35 34 1,.l 36 35,.m 37 2,.x 38 2 36 37,.f 39 38 1,.l 40 39,.x 41 1 24 32,.s 100001 1 41 40] [[],[0],[1],[2],[],[4],[5],[6],[],[7,8],[9],[10],[],[12],[13],[14],[],[15,16],[17],[18],[3,11,0,1,2,3,4,5,6,7,8,9,10,11,12,13,14,15,16,17,18,19],[20,19,0,1,2,3,4,5,6,7,8,9,10,11,12,13,14,15,16,17,18,19]]))
 (.reg [.m 19 2,.B 20 .add 19 1,.m 2 20]))))))
 (.norm [0] (.reg [.m 42 0,.op 43 (.bslice 2 []),.op 44 (.nilc (.t 42)),.f 45 44 1,.s 100002 1 45 43])))⟩
theorem r_s_l10Flush {Te:TE} (c_s_l10Op:C_s_l10Op Te):C_s_l10Flush (RF Te x_s_l10Flush):=by
 intro d hd hidx
 refine X0 x_s_l10Flush.eq_1 ?_
 cases g1:d.Down
 rotate_left
 ·have e:d.flush=d:=by rw [DevV.flush,if_pos g1]
  try simp -implicitDefEqProofs (maxSteps:=1000000) only [go_sem,g1,e,take_all,DevV.enc]
  repeat refine ⟨sc,?_⟩
  try exact sf
  try rfl
 have e:=show d.flush=if d.Fuse=0 then d.burn else ⟨flushed d.Secs d.Cache,[],d.burn.Fuse,d.burn.Down⟩ from if_neg (by rw [g1]; decide)
 refine G1 g1 ?_
 have tb:=c_s_l10Op d
 simp only [DevV.enc,g1] at tb
 have bc:=burn_cache d
 have bs:=burn_secs d
 cases g6:(d.Fuse==0)
 rotate_left
 ·have g7:d.Fuse=0:=by simpa using g6
  rw [if_pos g7] at e
  refine .of (tb) ?_
  try simp -implicitDefEqProofs (maxSteps:=1000000) only [go_sem,g6,take_all,e,g1,DevV.enc]
  repeat refine ⟨sc,?_⟩
  try exact sf
  try rfl
 have g7:¬ d.Fuse=0:=by simpa using g6
 rw [if_neg g7] at e
 refine C1 (tb) g6 ?_
 refine loop_of (σ:=Nat×List (List UInt8)) (fun x=>⟨[(0,.bp 0 0),(2,.one (.pv (.int .i64 x.1)))],[(0,[.rf 47 1 [] 1 0 d.Secs.length,.rf 47 2 [] 2 0 d.Cache.length,.pv (.int .i64 d.burn.Fuse),.pv (.bool d.burn.Down)])],[(0,[.no (),.no (),iT d.Fuse,bT false]),(47,[bT true,slT true 1 (secR true) x.2,Tr.sl true 2 () (mvRows d.Cache x.1),iT d.burn.Fuse,bT d.burn.Down])]⟩) (fun x=>x.1≤d.Cache.length∧x.2=flushed d.Secs (d.Cache.take x.1)) (fun x=>d.Cache.length - x.1) (0,d.Secs) ?_ ⟨Nat.zero_le _,rfl⟩ ?_
 ·simp -implicitDefEqProofs (maxSteps:=1000000) only [go_sem,bs,bc]
  try rfl
 ·rintro ⟨i,S⟩ ⟨hi,he⟩
  simp only at hi he
  have hl:S.length=d.Secs.length:=by rw [he,flushed_len]
  have hl2:(List.map (secR true) S).length=d.Secs.length:=by rw [List.length_map,hl]
  cases q:decide ((i:Int) < (d.Cache.length:Int))
  ·have k0:i=d.Cache.length:=by simp only [decide_eq_false_iff_not] at q; omega
   rw [k0,List.take_length] at he
   have et:List.take d.Secs.length (List.map (secR true) S)=List.map (secR true) S:=List.take_of_length_le (by omega)
   rw [← he] at e
   exact F3 q et e
  ·have k1:i < d.Cache.length:=by simp only [decide_eq_true_eq] at q; omega
   have hw:=hidx _ (List.getElem_mem k1)
   have g8:decide (0≤d.Cache[i].N)=true:=decide_eq_true hw.1
   have hn:d.Cache[i].N.toNat < S.length:=by omega
   have em:=mv_get k1
   have ec:(mvRows d.Cache i).getD i []=d.Cache[i].enc true:=by rw [List.getD_eq_getElem?_getD,em]; rfl
   have ex:=mv_set k1
   have eg:=getS hn
   have es:=setS S d.Cache[i].N.toNat d.Cache[i].B
   try simp -implicitDefEqProofs (maxSteps:=1000000) only [go_sem,q,em,ec,ex,mv_len,take_rows,g8,storeAp,setCells,eg,es,hl2]
   repeat refine ⟨sc,?_⟩
   try exact sf
   refine ⟨(i + 1,S.set d.Cache[i].N.toNat d.Cache[i].B),?_,⟨k1,by rw [he,flushed_step k1]⟩,by simp only; omega⟩
   rw [IntWalk.i64_in _ (by omega)]
   rfl
def x_l_toMsgS:FnX:=⟨23,[.tmp 2],
  .q [.op 2 (.mv (.k (.one (.nils 8))))]
 (.q [.m 5 0,.n 6 5,.op 7 (.mks 8 80 [.pv (.int .i64 0),.pv (.int .i64 0),.pv (.int .i64 0),.pv (.int .i64 0),.pv (.string ⟨#[]⟩),.pv (.string ⟨#[]⟩),.pv (.int .i64 0),.pv (.int .i64 0)] (.t 6)),.m 3 7]
 (.seq (.q [.i 4 0]
 (.block 0 (.loop [0,3,4] (.seq (.q [.m 8 4,.m 9 0,.n 10 9,.b 11 .lss 8 10]
 (.cond 11 .skip (.exit 0)))
 (.seq (.block 1 (.reg [.m 14 3,.m 15 4,.m 16 0,.m 17 4,.x 18 8 16 17,.L 19 8 18,.c 20 221 [19],.x 21 8 14 15,.s 100001 8 21 20]))
 (.reg [.m 12 4,.B 13 .add 12 1,.m 4 13]))))))
 (.norm [3] (.q [.m 22 3,.m 2 22]
 .ret))))⟩
theorem r_l_toMsgS {Te:TE} (c_l_toMsg:C_l_toMsg Te):C_l_toMsgS (RF Te x_l_toMsgS):=by
 intro l hl
 refine run0 ?_
 simp -implicitDefEqProofs (maxSteps:=1000000) (disch:=omega) only [x_l_toMsgS,go_sem,IntWalk.i64_in]
 refine ⟨⟨by simp only [decide_eq_true_eq]; omega,by simp only [decide_eq_true_eq]; omega⟩,?_⟩
 refine loop_of (σ:=Nat) (fun i=>⟨[(0,.one (.ro 8 (l.map Msg.row))),(3,.one (.rf 24 0 [] 8 0 l.length)),(4,.one (.pv (.int .i64 i)))],[],
  [(0,[slT false 8 Msg.row l]),(24,[.sl true 8 () ((l.take i).map Msg.row++List.replicate (l.length - i) [.pv (.int .i64 0),.pv (.int .i64 0),.pv (.int .i64 0),.pv (.int .i64 0),.pv (.string ⟨#[]⟩),.pv (.string ⟨#[]⟩),.pv (.int .i64 0),.pv (.int .i64 0)])])]⟩) (fun i=>i≤l.length) (fun i=>l.length - i) 0 ?_ (Nat.zero_le _) ?_
 ·simp -implicitDefEqProofs (maxSteps:=1000000) only [go_sem]; rfl
 ·intro i hi
  simp -implicitDefEqProofs (maxSteps:=1000000) only [go_sem]
  refine ⟨fun h=>?_,fun h=>?_⟩
  ·have hi':i < l.length:=by simp only [decide_eq_true_eq] at h; omega
   simp -implicitDefEqProofs (maxSteps:=1000000) only [go_sem,List.getElem?_eq_getElem hi',fill_len Msg.row l [.pv (.int .i64 0),.pv (.int .i64 0),.pv (.int .i64 0),.pv (.int .i64 0),.pv (.string ⟨#[]⟩),.pv (.string ⟨#[]⟩),.pv (.int .i64 0),.pv (.int .i64 0)] hi,storeAp,setCells,List.getD_eq_getElem?_getD,fill_get Msg.row l [.pv (.int .i64 0),.pv (.int .i64 0),.pv (.int .i64 0),.pv (.int .i64 0),.pv (.string ⟨#[]⟩),.pv (.string ⟨#[]⟩),.pv (.int .i64 0),.pv (.int .i64 0)] hi']
   refine .of (c_l_toMsg _) ?_
   simp -implicitDefEqProofs (maxSteps:=1000000) only [go_sem,fill_len Msg.row l [.pv (.int .i64 0),.pv (.int .i64 0),.pv (.int .i64 0),.pv (.int .i64 0),.pv (.string ⟨#[]⟩),.pv (.string ⟨#[]⟩),.pv (.int .i64 0),.pv (.int .i64 0)] hi,storeAp,setCells,List.getD_eq_getElem?_getD,fill_get Msg.row l [.pv (.int .i64 0),.pv (.int .i64 0),.pv (.int .i64 0),.pv (.int .i64 0),.pv (.string ⟨#[]⟩),.pv (.string ⟨#[]⟩),.pv (.int .i64 0),.pv (.int .i64 0)] hi']
   repeat (first | refine ⟨by decide,?_⟩ | refine ⟨by simpa using hi',?_⟩)
   refine ⟨i + 1,?_,hi',by omega⟩
   rw [← fill_set Msg.row l [.pv (.int .i64 0),.pv (.int .i64 0),.pv (.int .i64 0),.pv (.int .i64 0),.pv (.string ⟨#[]⟩),.pv (.string ⟨#[]⟩),.pv (.int .i64 0),.pv (.int .i64 0)] hi',IntWalk.i64_in _ (by omega)]
   rfl
  ·have:i=l.length:=by simp only [decide_eq_false_iff_not] at h; omega
   subst this
   simp -implicitDefEqProofs (maxSteps:=1000000) only [go_sem,fill_len Msg.row l [.pv (.int .i64 0),.pv (.int .i64 0),.pv (.int .i64 0),.pv (.int .i64 0),.pv (.string ⟨#[]⟩),.pv (.string ⟨#[]⟩),.pv (.int .i64 0),.pv (.int .i64 0)] hi,fill_end]
   refine ⟨by simp,?_⟩
   simp [take_map]
def x_l_eqMsgS:FnX:=⟨27,[.tmp 4],
  .q [.F 4]
 (.seq (.q [.m 6 0,.n 7 6,.m 8 1,.n 9 8,.b 10 .neq 7 9]
 (.c 10 (.q [.F 4]
 .ret)))
 (.seq (.q [.i 5 0]
 (.block 0 (.loop [0,1,5] (.seq (.q [.m 11 5,.m 12 0,.n 13 12,.b 14 .lss 11 13]
 (.cond 14 .skip (.exit 0)))
 (.seq (.block 1 (.seq (.draw [.m 17 0,.m 18 5,.x 19 8 17 18,.L 20 8 19,.m 21 1,.m 22 5,.x 23 8 21 22,.L 24 8 23,.c 25 227 [20,24],.N 26 25] [[],[],[0,1],[2],[],[],[4,5],[6],[3,7],[8]])
 (.c 26 (.q [.F 4]
 .ret))))
 (.reg [.m 15 5,.B 16 .add 15 1,.m 5 16]))))))
 (.norm [] (.q [.T 4]
 .ret))))⟩
theorem r_l_eqMsgS {Te:TE} (c_l_eqMsg:C_l_eqMsg Te):C_l_eqMsgS (RF Te x_l_eqMsgS):=by
 intro l m hl
 refine run0 ?_
 simp -implicitDefEqProofs (maxSteps:=1000000) (disch:=omega) only [x_l_eqMsgS,go_sem,IntWalk.i64_in]
 refine ⟨fun h=>?_,fun h=>?_⟩
 ·have:l≠m:=fun e=>by simp [e] at h
  simp [this]
 ·have hlen:l.length=m.length:=by simp at h; omega
  refine loop_of (σ:=Nat) (fun i=>⟨[(0,.one (.ro 8 (l.map Msg.row))),(1,.one (.ro 8 (m.map Msg.row))),(5,.one (.pv (.int .i64 i)))],[],[(0,[slT false 8 Msg.row l]),(1,[slT false 8 Msg.row m])]⟩) (fun i=>i≤l.length∧l.take i=m.take i) (fun i=>l.length - i) 0 ?_ ⟨Nat.zero_le _,by simp⟩ ?_
  ·simp -implicitDefEqProofs (maxSteps:=1000000) only [go_sem]; rfl
  ·intro i ⟨hi,hs⟩
   simp -implicitDefEqProofs (maxSteps:=1000000) only [go_sem]
   refine ⟨fun h=>?_,fun h=>?_⟩
   ·have hi':i < l.length:=by simp only [decide_eq_true_eq] at h; omega
    have hj':i < m.length:=by omega
    simp -implicitDefEqProofs (maxSteps:=1000000) only [go_sem,List.getElem?_eq_getElem hi',List.getElem?_eq_getElem hj']
    refine .of (c_l_eqMsg _ _) ?_
    simp -implicitDefEqProofs (maxSteps:=1000000) only [go_sem]
    refine ⟨by decide,fun h2=>?_,fun h2=>?_⟩
    ·have:l≠m:=fun e=>by subst e; simp at h2
     simp [this]
    ·refine ⟨i + 1,by rw [IntWalk.i64_in _ (by omega)]; rfl,⟨hi',same_step hi' hj' hs ?_⟩,by omega⟩
     simpa using h2
   ·have hle:l.length≤i:=by simp only [decide_eq_false_iff_not] at h; omega
    have:l=m:=same_end hle (by omega) hs
    simp [this]
def x_s_l12Mark:FnX:=⟨16,[.tmp 2],
  .q [.v 1 0,.F 2]
 (.q [.f 3 1 0,.l 4 3,.op 5 (.call 120 [0,0,0] [(.t 4),(.i 1),(.i 9)]),.m 6 5,.y 6 (.f 7 1 1),.y 6 (.l 8 7),.y 6 (.c 9 161 [8]),.a 10 6 9,.m 11 10,.y 11 (.f 12 1 2),.y 11 (.l 13 12),.y 11 (.op 14 (.call 120 [0,0,0] [(.t 13),(.i 0),(.i 6)])),.a 15 11 14,.m 2 15]
 .ret)⟩
theorem r_s_l12Mark {Te:TE} (c_s_l1In:C_s_l1In Te) (c_s_l1Word:C_s_l1Word Te):C_s_l12Mark (RF Te x_s_l12Mark):=by
 intro m
 refine run0 ?_
 simp -implicitDefEqProofs (maxSteps:=1000000) only [x_s_l12Mark,go_sem,MarkV.ok]
 repeat refine ⟨sc,?_⟩
 try exact sf
 refine C0 (c_s_l1In _ _ _) ?_
 cases g1:win m.Who 1 9
 ·exact F1 g1
 refine G1 g1 ?_
 refine C0 (c_s_l1Word _) ?_
 cases g2:win m.Seq 0 65535
 ·exact F1 g2
 refine G1 g2 ?_
 exact D0 (c_s_l1In _ _ _)
def x_l_szByteS:FnX:=⟨12,[.tmp 4],
  .q [.i 4 0]
 (.q [.m 5 1,.m 6 0,.n 7 6,.b 8 .sub 5 7,.m 1 8]
 (.seq (.q [.m 9 1,.B 10 .lss 9 0]
 (.c 10 (.q [.i 4 (-1)]
 .ret)))
 (.q [.m 11 1,.m 4 11]
 .ret)))⟩
theorem r_l_szByteS {Te:TE}:C_l_szByteS (RF Te x_l_szByteS):=by
 intro l k hl hk
 refine run0 ?_
 simp -implicitDefEqProofs (maxSteps:=1000000) (disch:=omega) only [x_l_szByteS,go_sem,IntWalk.i64_in]
 refine ⟨fun h=>?_,fun h=>?_⟩
 ·simp only [decide_eq_true_eq] at h
  simp only [left,if_pos h]
 ·simp only [decide_eq_false_iff_not] at h
  simp only [left,if_neg h]
def x_l_toByteS:FnX:=⟨22,[.tmp 2],
  .q [.op 2 (.mv (.k (.one (.nils 1))))]
 (.q [.m 5 0,.n 6 5,.op 7 (.mks 1 1 [.pv (.int .u8 0)] (.t 6)),.m 3 7]
 (.seq (.q [.i 4 0]
 (.block 0 (.loop [0,3,4] (.seq (.q [.m 8 4,.m 9 0,.n 10 9,.b 11 .lss 8 10]
 (.cond 11 .skip (.exit 0)))
 (.seq (.block 1 (.reg [.m 14 3,.m 15 4,.m 16 0,.m 17 4,.x 18 1 16 17,.l 19 18,.x 20 1 14 15,.s 100001 1 20 19]))
 (.reg [.m 12 4,.B 13 .add 12 1,.m 4 13]))))))
 (.norm [3] (.q [.m 21 3,.m 2 21]
 .ret))))⟩
theorem r_l_toByteS {Te:TE}:C_l_toByteS (RF Te x_l_toByteS):=by
 intro l hl
 refine run0 ?_
 simp -implicitDefEqProofs (maxSteps:=1000000) (disch:=omega) only [x_l_toByteS,go_sem,IntWalk.i64_in]
 refine ⟨⟨by simp only [decide_eq_true_eq]; omega,by simp only [decide_eq_true_eq]; omega⟩,?_⟩
 refine loop_of (σ:=Nat) (fun i=>⟨[(0,.one (.ro 1 (l.map uR))),(3,.one (.rf 23 0 [] 1 0 l.length)),(4,.one (.pv (.int .i64 i)))],[],
  [(0,[slT false 1 uR l]),(23,[.sl true 1 () ((l.take i).map uR++List.replicate (l.length - i) [.pv (.int .u8 0)])])]⟩) (fun i=>i≤l.length) (fun i=>l.length - i) 0 ?_ (Nat.zero_le _) ?_
 ·simp -implicitDefEqProofs (maxSteps:=1000000) only [go_sem]; rfl
 ·intro i hi
  simp -implicitDefEqProofs (maxSteps:=1000000) only [go_sem]
  refine ⟨fun h=>?_,fun h=>?_⟩
  ·have hi':i < l.length:=by simp only [decide_eq_true_eq] at h; omega
   simp -implicitDefEqProofs (maxSteps:=1000000) only [go_sem,List.getElem?_eq_getElem hi',fill_len uR l [.pv (.int .u8 0)] hi,storeAp,setCells,List.getD_eq_getElem?_getD,fill_get uR l [.pv (.int .u8 0)] hi']
   repeat (first | refine ⟨by decide,?_⟩ | refine ⟨by simpa using hi',?_⟩)
   refine ⟨i + 1,?_,hi',by omega⟩
   rw [← fill_set uR l [.pv (.int .u8 0)] hi',IntWalk.i64_in _ (by omega)]
   rfl
  ·have:i=l.length:=by simp only [decide_eq_false_iff_not] at h; omega
   subst this
   simp -implicitDefEqProofs (maxSteps:=1000000) only [go_sem,fill_len uR l [.pv (.int .u8 0)] hi,fill_end]
   refine ⟨by simp,?_⟩
   simp [take_map]
def x_l_eqByteS:FnX:=⟨26,[.tmp 4],
  .q [.F 4]
 (.seq (.q [.m 6 0,.n 7 6,.m 8 1,.n 9 8,.b 10 .neq 7 9]
 (.c 10 (.q [.F 4]
 .ret)))
 (.seq (.q [.i 5 0]
 (.block 0 (.loop [0,1,5] (.seq (.q [.m 11 5,.m 12 0,.n 13 12,.b 14 .lss 11 13]
 (.cond 14 .skip (.exit 0)))
 (.seq (.block 1 (.seq (.draw [.m 17 0,.m 18 5,.x 19 1 17 18,.l 20 19,.m 21 1,.m 22 5,.x 23 1 21 22,.l 24 23,.b 25 .neq 20 24] [[],[],[0,1],[2],[],[],[4,5],[6],[3,7]])
 (.c 25 (.q [.F 4]
 .ret))))
 (.reg [.m 15 5,.B 16 .add 15 1,.m 5 16]))))))
 (.norm [] (.q [.T 4]
 .ret))))⟩
theorem r_l_eqByteS {Te:TE}:C_l_eqByteS (RF Te x_l_eqByteS):=by
 intro l m hl
 refine run0 ?_
 simp -implicitDefEqProofs (maxSteps:=1000000) (disch:=omega) only [x_l_eqByteS,go_sem,IntWalk.i64_in]
 refine ⟨fun h=>?_,fun h=>?_⟩
 ·have:l≠m:=fun e=>by simp [e] at h
  simp [this]
 ·have hlen:l.length=m.length:=by simp at h; omega
  refine loop_of (σ:=Nat) (fun i=>⟨[(0,.one (.ro 1 (l.map uR))),(1,.one (.ro 1 (m.map uR))),(5,.one (.pv (.int .i64 i)))],[],[(0,[slT false 1 uR l]),(1,[slT false 1 uR m])]⟩) (fun i=>i≤l.length∧l.take i=m.take i) (fun i=>l.length - i) 0 ?_ ⟨Nat.zero_le _,by simp⟩ ?_
  ·simp -implicitDefEqProofs (maxSteps:=1000000) only [go_sem]; rfl
  ·intro i ⟨hi,hs⟩
   simp -implicitDefEqProofs (maxSteps:=1000000) only [go_sem]
   refine ⟨fun h=>?_,fun h=>?_⟩
   ·have hi':i < l.length:=by simp only [decide_eq_true_eq] at h; omega
    have hj':i < m.length:=by omega
    simp -implicitDefEqProofs (maxSteps:=1000000) only [go_sem,List.getElem?_eq_getElem hi',List.getElem?_eq_getElem hj',byte_neq]
    refine ⟨by decide,fun h2=>?_,fun h2=>?_⟩
    ·have:l≠m:=fun e=>by subst e; simp at h2
     simp [this]
    ·refine ⟨i + 1,by rw [IntWalk.i64_in _ (by omega)]; rfl,⟨hi',same_step hi' hj' hs ?_⟩,by omega⟩
     simpa using h2
   ·have hle:l.length≤i:=by simp only [decide_eq_false_iff_not] at h; omega
    have:l=m:=same_end hle (by omega) hs
    simp [this]
def x_l_markByteS:FnX:=⟨20,[.tmp 4],
  .q [.i 4 0]
 (.seq (.q [.i 5 0]
 (.block 0 (.loop [0,1,5] (.seq (.q [.m 6 5,.m 7 0,.n 8 7,.b 9 .lss 6 8]
 (.cond 9 .skip (.exit 0)))
 (.seq (.block 1 (.q [.m 12 0,.m 13 5,.m 14 1,.op 15 (.conv (.int .u8) (.t 14)),.x 16 1 12 13,.s 100001 1 16 15]
 (.reg [.m 17 1,.B 18 .add 17 1,.m 1 18])))
 (.reg [.m 10 5,.B 11 .add 10 1,.m 5 11]))))))
 (.norm [1] (.q [.m 19 1,.m 4 19]
 .ret)))⟩
theorem r_l_markByteS {Te:TE}:C_l_markByteS (RF Te x_l_markByteS):=by
 intro l k hl hk
 refine run0 ?_
 simp -implicitDefEqProofs (maxSteps:=1000000) (disch:=omega) only [x_l_markByteS,go_sem,IntWalk.i64_in]
 refine loop_of (σ:=Nat) (fun i=>⟨[(0,.one (.rf 0 0 [] 1 0 l.length)),(1,.one (.pv (.int .i64 (k + (1 * i:Nat))))),(5,.one (.pv (.int .i64 i)))],[],[(0,[.sl true 1 () ((marks 1 mkU i k).map uR++(l.drop i).map uR)]),(1,[iT k])]⟩) (fun i=>i≤l.length) (fun i=>l.length - i) 0 ?_ (Nat.zero_le _) ?_
 ·simp -implicitDefEqProofs (maxSteps:=1000000) only [go_sem]; simp [marks]
 ·intro i hi
  simp -implicitDefEqProofs (maxSteps:=1000000) only [go_sem]
  refine ⟨fun h=>?_,fun h=>?_⟩
  ·have hi':i < l.length:=by simp only [decide_eq_true_eq] at h; omega
   try simp -implicitDefEqProofs (maxSteps:=1000000) (disch:=omega) only [go_sem,storeAp,setCells,List.length_set,List.set_set,mark_len uR 1 mkU l k hi,List.getD_eq_getElem?_getD,mark_get uR 1 mkU l k hi',mark_reget uR 1 mkU l k hi',Option.getD_some,IntWalk.i64_in,mkU_wrap]
   repeat (first | refine ⟨by decide,?_⟩ | refine ⟨decide_eq_true hi',?_⟩)
   refine ⟨i + 1,?_,hi',by omega⟩
   rw [← mark_set uR 1 mkU l k hi',show k + ((1 * (i + 1):Nat):Int)=k + (1 * i:Nat) + 1 by omega]
   rfl
  ·have:i=l.length:=by simp only [decide_eq_false_iff_not] at h; omega
   subst this
   simp -implicitDefEqProofs (maxSteps:=1000000) only [go_sem,mark_end]
def x_l_heldByteS:FnX:=⟨22,[.tmp 4],
  .q [.i 4 0]
 (.seq (.q [.i 5 0]
 (.block 0 (.loop [0,1,5] (.seq (.q [.m 6 5,.m 7 0,.n 8 7,.b 9 .lss 6 8]
 (.cond 9 .skip (.exit 0)))
 (.seq (.block 1 (.seq (.q [.m 12 0,.m 13 5,.x 14 1 12 13,.l 15 14,.m 16 1,.op 17 (.conv (.int .u8) (.t 16)),.b 18 .neq 15 17]
 (.c 18 (.q [.i 4 (-1)]
 .ret)))
 (.reg [.m 19 1,.B 20 .add 19 1,.m 1 20])))
 (.reg [.m 10 5,.B 11 .add 10 1,.m 5 11]))))))
 (.norm [1] (.q [.m 21 1,.m 4 21]
 .ret)))⟩
theorem r_l_heldByteS {Te:TE}:C_l_heldByteS (RF Te x_l_heldByteS):=by
 intro n k hl hk
 refine run0 ?_
 simp -implicitDefEqProofs (maxSteps:=1000000) (disch:=omega) only [x_l_heldByteS,go_sem,IntWalk.i64_in]
 refine loop_of (σ:=Nat) (fun i=>⟨[(0,.one (.ro 1 ((marks 1 mkU n k).map uR))),(1,.one (.pv (.int .i64 (k + (1 * i:Nat))))),(5,.one (.pv (.int .i64 i)))],[],[(0,[slT false 1 uR (marks 1 mkU n k)]),(1,[iT k])]⟩) (fun i=>i≤n) (fun i=>n - i) 0 ?_ (Nat.zero_le _) ?_
 ·simp -implicitDefEqProofs (maxSteps:=1000000) only [go_sem]; simp
 ·intro i hi
  simp -implicitDefEqProofs (maxSteps:=1000000) only [go_sem,marks_length]
  refine ⟨fun h=>?_,fun h=>?_⟩
  ·have hi':i < n:=by simp only [decide_eq_true_eq] at h; omega
   try simp -implicitDefEqProofs (maxSteps:=1000000) (disch:=omega) only [go_sem,marks_get 1 mkU k hi',IntWalk.i64_in,mkU_wrap,bne_self_eq_false,decide_true,Bool.not_true]
   refine ⟨i + 1,?_,hi',by omega⟩
   rw [show k + ((1 * (i + 1):Nat):Int)=k + (1 * i:Nat) + 1 by omega]
   rfl
  ·have:i=n:=by simp only [decide_eq_false_iff_not] at h; omega
   subst this
   simp -implicitDefEqProofs (maxSteps:=1000000) only [go_sem]
def x_i_PutText:FnX:=⟨19,[.tmp 4],
  .q [.op 4 (.mv (.k (.one (.nils 1))))]
 (.seq (.q [.m 5 1,.op 6 (.slen (.t 5)),.B 7 .gtr 6 60]
 (.c 7 (.q [.m 8 0,.op 9 (.bslice 1 [(.t 8)]),.c 10 100 [9],.m 4 10]
 .ret)))
 (.q [.m 11 0,.m 12 1,.op 13 (.slen (.t 12)),.c 14 312 [11,13],.m 15 1,.op 16 (.conv .s2b (.t 15)),.op 17 (.bslice 1 [(.t 14),(.t 16)]),.c 18 100 [17],.m 4 18]
 .ret))⟩
theorem r_i_PutText {Te:TE} (c_i_joined:C_i_joined Te) (c_i_PutW:C_i_PutW Te):C_i_PutText (RF Te x_i_PutText):=by
 intro b t h ht
 refine run0 ?_
 simp -implicitDefEqProofs (maxSteps:=1000000) only [x_i_PutText,go_sem]
 refine ⟨fun q=>?_,fun q=>?_⟩
 ·have q':(t.size:Int) > 60:=by simpa using q
  simp only [putText,if_pos q']
  refine .of (c_i_joined [b] (by rw [flat1]; omega) (by show 1≤2 ^ 31; decide)) ?_
  try simp -implicitDefEqProofs (maxSteps:=1000000) only [go_sem,flat1]
  repeat refine ⟨sc,?_⟩
  try exact sf
 ·have q':¬ ((t.size:Int) > 60):=by simpa using q
  have q3:t.data.toList.length=t.size:=by rw [Array.length_toList]; rfl
  have el:=putW_len b t.size
  simp only [putText,if_neg q']
  refine .of (c_i_PutW b _ (by omega)) ?_
  try simp -implicitDefEqProofs (maxSteps:=1000000) only [go_sem,ofBytes_eq]
  repeat refine ⟨sc,?_⟩
  try exact sf
  refine .of (c_i_joined [putW b t.size,t.data.toList] (by rw [flat2,List.length_append,el]; omega) (by show 2≤2 ^ 31; decide)) ?_
  simp -implicitDefEqProofs (maxSteps:=1000000) only [go_sem,flat2]
  refine ⟨decide_eq_true (Nat.le_refl _),?_⟩
  rw [List.take_of_length_le (by rw [List.length_map,List.length_append]; exact Nat.le_refl _)]
end Go.X

