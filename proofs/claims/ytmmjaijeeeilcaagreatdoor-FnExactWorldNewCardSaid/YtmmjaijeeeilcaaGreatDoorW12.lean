/- Texts: CR CD CEc_7 CE_4 CVl_3 CT_3 CEb_6 CEc_8 CEa_2 CVn_2 CG CB_4. -/
import Derived.Test.YtmmjaijeeeilcaaGreatDoorW04
set_option linter.unusedVariables false
set_option linter.unusedSimpArgs false
namespace Go.X
set_option maxRecDepth 100000
set_option maxHeartbeats 8000000
def x_i_nineSign:FnX:=⟨21,[.tmp 2],
  .q [.i 2 0]
 (.seq (.q [.m 3 0]
 (.block 0 (.q [.B 5 .eql 3 164,.m 4 5]
 (.cond 4 (.q [.i 2 8364]
 .ret) (.q [.B 7 .eql 3 166,.m 6 7]
 (.cond 6 (.q [.i 2 352]
 .ret) (.q [.B 9 .eql 3 168,.m 8 9]
 (.cond 8 (.q [.i 2 353]
 .ret) (.q [.B 11 .eql 3 180,.m 10 11]
 (.cond 10 (.q [.i 2 381]
 .ret) (.q [.B 13 .eql 3 184,.m 12 13]
 (.cond 12 (.q [.i 2 382]
 .ret) (.q [.B 15 .eql 3 188,.m 14 15]
 (.cond 14 (.q [.i 2 338]
 .ret) (.q [.B 17 .eql 3 189,.m 16 17]
 (.cond 16 (.q [.i 2 339]
 .ret) (.q [.B 19 .eql 3 190,.m 18 19]
 (.c 18 (.q [.i 2 376]
 .ret)))))))))))))))))))
 (.q [.m 20 0,.m 2 20]
 .ret))⟩
theorem r_i_nineSign {Te:TE}:C_i_nineSign (RF Te x_i_nineSign):=by
 intro b
 refine run0 ?_
 cases g0:(b==164)
 rotate_left
 ·simp -implicitDefEqProofs (maxSteps:=1000000) only [x_i_nineSign,go_sem,nine,g0]
  repeat refine ⟨sc,?_⟩
  try exact sf
 cases g1:(b==166)
 rotate_left
 ·simp -implicitDefEqProofs (maxSteps:=1000000) only [x_i_nineSign,go_sem,nine,g1,g0]
  repeat refine ⟨sc,?_⟩
  try exact sf
 cases g2:(b==168)
 rotate_left
 ·simp -implicitDefEqProofs (maxSteps:=1000000) only [x_i_nineSign,go_sem,nine,g2,g0,g1]
  repeat refine ⟨sc,?_⟩
  try exact sf
 cases g3:(b==180)
 rotate_left
 ·simp -implicitDefEqProofs (maxSteps:=1000000) only [x_i_nineSign,go_sem,nine,g3,g0,g1,g2]
  repeat refine ⟨sc,?_⟩
  try exact sf
 cases g4:(b==184)
 rotate_left
 ·simp -implicitDefEqProofs (maxSteps:=1000000) only [x_i_nineSign,go_sem,nine,g4,g0,g1,g2,g3]
  repeat refine ⟨sc,?_⟩
  try exact sf
 cases g5:(b==188)
 rotate_left
 ·simp -implicitDefEqProofs (maxSteps:=1000000) only [x_i_nineSign,go_sem,nine,g5,g0,g1,g2,g3,g4]
  repeat refine ⟨sc,?_⟩
  try exact sf
 cases g6:(b==189)
 rotate_left
 ·simp -implicitDefEqProofs (maxSteps:=1000000) only [x_i_nineSign,go_sem,nine,g6,g0,g1,g2,g3,g4,g5]
  repeat refine ⟨sc,?_⟩
  try exact sf
 cases g7:(b==190)
 rotate_left
 ·simp -implicitDefEqProofs (maxSteps:=1000000) only [x_i_nineSign,go_sem,nine,g7,g0,g1,g2,g3,g4,g5,g6]
  repeat refine ⟨sc,?_⟩
  try exact sf
 simp -implicitDefEqProofs (maxSteps:=1000000) only [x_i_nineSign,go_sem,nine,g0,g1,g2,g3,g4,g5,g6,g7]
 repeat refine ⟨sc,?_⟩
 try exact sf
def x_s_l3Nine:FnX:=⟨21,[.tmp 2],
  .q [.i 2 0]
 (.seq (.q [.m 3 0]
 (.block 0 (.q [.B 5 .eql 3 164,.m 4 5]
 (.cond 4 (.q [.i 2 8364]
 .ret) (.q [.B 7 .eql 3 166,.m 6 7]
 (.cond 6 (.q [.i 2 352]
 .ret) (.q [.B 9 .eql 3 168,.m 8 9]
 (.cond 8 (.q [.i 2 353]
 .ret) (.q [.B 11 .eql 3 180,.m 10 11]
 (.cond 10 (.q [.i 2 381]
 .ret) (.q [.B 13 .eql 3 184,.m 12 13]
 (.cond 12 (.q [.i 2 382]
 .ret) (.q [.B 15 .eql 3 188,.m 14 15]
 (.cond 14 (.q [.i 2 338]
 .ret) (.q [.B 17 .eql 3 189,.m 16 17]
 (.cond 16 (.q [.i 2 339]
 .ret) (.q [.B 19 .eql 3 190,.m 18 19]
 (.c 18 (.q [.i 2 376]
 .ret)))))))))))))))))))
 (.q [.m 20 0,.m 2 20]
 .ret))⟩
theorem r_s_l3Nine {Te:TE}:C_s_l3Nine (RF Te x_s_l3Nine):=by
 intro b
 refine run0 ?_
 cases g0:(b==164)
 rotate_left
 ·simp -implicitDefEqProofs (maxSteps:=1000000) only [x_s_l3Nine,go_sem,nine,g0]
  repeat refine ⟨sc,?_⟩
  try exact sf
 cases g1:(b==166)
 rotate_left
 ·simp -implicitDefEqProofs (maxSteps:=1000000) only [x_s_l3Nine,go_sem,nine,g1,g0]
  repeat refine ⟨sc,?_⟩
  try exact sf
 cases g2:(b==168)
 rotate_left
 ·simp -implicitDefEqProofs (maxSteps:=1000000) only [x_s_l3Nine,go_sem,nine,g2,g0,g1]
  repeat refine ⟨sc,?_⟩
  try exact sf
 cases g3:(b==180)
 rotate_left
 ·simp -implicitDefEqProofs (maxSteps:=1000000) only [x_s_l3Nine,go_sem,nine,g3,g0,g1,g2]
  repeat refine ⟨sc,?_⟩
  try exact sf
 cases g4:(b==184)
 rotate_left
 ·simp -implicitDefEqProofs (maxSteps:=1000000) only [x_s_l3Nine,go_sem,nine,g4,g0,g1,g2,g3]
  repeat refine ⟨sc,?_⟩
  try exact sf
 cases g5:(b==188)
 rotate_left
 ·simp -implicitDefEqProofs (maxSteps:=1000000) only [x_s_l3Nine,go_sem,nine,g5,g0,g1,g2,g3,g4]
  repeat refine ⟨sc,?_⟩
  try exact sf
 cases g6:(b==189)
 rotate_left
 ·simp -implicitDefEqProofs (maxSteps:=1000000) only [x_s_l3Nine,go_sem,nine,g6,g0,g1,g2,g3,g4,g5]
  repeat refine ⟨sc,?_⟩
  try exact sf
 cases g7:(b==190)
 rotate_left
 ·simp -implicitDefEqProofs (maxSteps:=1000000) only [x_s_l3Nine,go_sem,nine,g7,g0,g1,g2,g3,g4,g5,g6]
  repeat refine ⟨sc,?_⟩
  try exact sf
 simp -implicitDefEqProofs (maxSteps:=1000000) only [x_s_l3Nine,go_sem,nine,g0,g1,g2,g3,g4,g5,g6,g7]
 repeat refine ⟨sc,?_⟩
 try exact sf
def x_i_koiSign:FnX:=⟨26,[.tmp 2],
  .q [.i 2 0]
 (.q [.op 4 (.build [.i 0,.i 0,.i 0,.i 0,.i 0,.i 0,.i 0,.i 0,.i 0,.i 0,.i 0,.i 0,.i 0,.i 0,.i 0,.i 0,.i 0,.i 0,.i 0,.i 0,.i 0,.i 0,.i 0,.i 0,.i 0,.i 0,.i 0,.i 0,.i 0,.i 0,.i 0,.i 0] [(0,1,(.i 1102)),(1,1,(.i 1072)),(2,1,(.i 1073)),(3,1,(.i 1094)),(4,1,(.i 1076)),(5,1,(.i 1077)),(6,1,(.i 1092)),(7,1,(.i 1075)),(8,1,(.i 1093)),(9,1,(.i 1080)),(10,1,(.i 1081)),(11,1,(.i 1082)),(12,1,(.i 1083)),(13,1,(.i 1084)),(14,1,(.i 1085)),(15,1,(.i 1086)),(16,1,(.i 1087)),(17,1,(.i 1103)),(18,1,(.i 1088)),(19,1,(.i 1089)),(20,1,(.i 1090)),(21,1,(.i 1091)),(22,1,(.i 1078)),(23,1,(.i 1074)),(24,1,(.i 1100)),(25,1,(.i 1099)),(26,1,(.i 1079)),(27,1,(.i 1096)),(28,1,(.i 1101)),(29,1,(.i 1097)),(30,1,(.i 1095)),(31,1,(.i 1098))]),.op 3 (.alloc [.i 0,.i 0,.i 0,.i 0,.i 0,.i 0,.i 0,.i 0,.i 0,.i 0,.i 0,.i 0,.i 0,.i 0,.i 0,.i 0,.i 0,.i 0,.i 0,.i 0,.i 0,.i 0,.i 0,.i 0,.i 0,.i 0,.i 0,.i 0,.i 0,.i 0,.i 0,.i 0]),.s 100001 32 3 4]
 (.seq (.block 0 (.q [.m 6 0,.B 7 .geq 6 224,.m 5 7]
 (.cond 5 (.q [.m 8 0,.B 9 .sub 8 224,.op 10 (.aaddr 32 1 (.t 3) (.t 9)),.l 11 10,.B 12 .sub 11 32,.m 2 12]
 .ret) (.q [.m 14 0,.B 15 .geq 14 192,.m 13 15]
 (.cond 13 (.q [.m 16 0,.B 17 .sub 16 192,.op 18 (.aaddr 32 1 (.t 3) (.t 17)),.l 19 18,.m 2 19]
 .ret) (.q [.m 21 0,.B 22 .eql 21 163,.m 20 22]
 (.cond 20 (.q [.i 2 1105]
 .ret) (.q [.m 24 0,.B 25 .eql 24 179,.m 23 25]
 (.c 23 (.q [.i 2 1025]
 .ret))))))))))
 (.q [.i 2 0]
 .ret)))⟩
theorem r_i_koiSign {Te:TE}:C_i_koiSign (RF Te x_i_koiSign):=by
 intro b hb
 refine run0 ?_
 cases g1:decide (b≥224)
 ·cases g2:decide (b≥192)
  ·cases g3:(b==163)
   ·cases g4:(b==179)
    ·simp -implicitDefEqProofs (maxSteps:=1000000) only [x_i_koiSign,go_sem,koi,g1,g2,g3,g4]
     repeat refine ⟨sc,?_⟩
     try exact sf
    ·simp -implicitDefEqProofs (maxSteps:=1000000) only [x_i_koiSign,go_sem,koi,g1,g2,g3,g4]
     repeat refine ⟨sc,?_⟩
     try exact sf
   ·simp -implicitDefEqProofs (maxSteps:=1000000) only [x_i_koiSign,go_sem,koi,g1,g2,g3]
    repeat refine ⟨sc,?_⟩
    try exact sf
  ·simp only [decide_eq_true_eq] at g2
   have e:IntKind.i64.wrap (b - 192)=b - 192:=IntWalk.i64_in _ (by omega)
   simp only [decide_eq_false_iff_not] at g1
   have hk:(b - 192).toNat < 32:=by omega
   have q1:=decide_eq_false g1
   have q2:=decide_eq_true g2
   simp -implicitDefEqProofs (maxSteps:=1000000) only [x_i_koiSign,go_sem,koi,q1,q2,e,Nat.mul_one]
   repeat refine ⟨sc,?_⟩
   try exact sf
   try simp -implicitDefEqProofs (maxSteps:=1000000) only [go_sem,koi_cel hk,q1,q2]
   repeat refine ⟨sc,?_⟩
   try exact sf
 ·simp only [decide_eq_true_eq] at g1
  have e:IntKind.i64.wrap (b - 224)=b - 224:=IntWalk.i64_in _ (by omega)
  have hk:(b - 224).toNat < 32:=by omega
  have q1:=decide_eq_true g1
  have hv:=koi_in ⟨(b - 224).toNat,hk⟩
  have e2:IntKind.i64.wrap (koiL.getD (b - 224).toNat 0 - 32)=koiL.getD (b - 224).toNat 0 - 32:=IntWalk.i64_in _ (by simp only at hv; omega)
  simp -implicitDefEqProofs (maxSteps:=1000000) only [x_i_koiSign,go_sem,koi,q1,e,Nat.mul_one]
  repeat refine ⟨sc,?_⟩
  try exact sf
  try simp -implicitDefEqProofs (maxSteps:=1000000) only [go_sem,koi_cel hk,q1,e2]
  repeat refine ⟨sc,?_⟩
  try exact sf
def x_l_szLead:FnX:=⟨24,[.tmp 4],
  .q [.v 2 0,.i 4 0]
 (.q [.f 5 2 1,.l 6 5,.m 7 1,.c 8 211 [6,7],.m 1 8]
 (.seq (.q [.m 9 1,.B 10 .lss 9 0]
 (.c 10 (.q [.i 4 (-1)]
 .ret)))
 (.q [.f 11 2 2,.l 12 11,.m 13 1,.c 14 211 [12,13],.m 1 14]
 (.seq (.q [.m 15 1,.B 16 .lss 15 0]
 (.c 16 (.q [.i 4 (-1)]
 .ret)))
 (.q [.f 17 2 3,.l 18 17,.m 19 1,.c 20 212 [18,19],.m 1 20]
 (.seq (.q [.m 21 1,.B 22 .lss 21 0]
 (.c 22 (.q [.i 4 (-1)]
 .ret)))
 (.q [.m 23 1,.m 4 23]
 .ret)))))))⟩
theorem r_l_szLead {Te:TE} (c_l_szBoolS:C_l_szBoolS Te) (c_l_szStringS:C_l_szStringS Te):C_l_szLead (RF Te x_l_szLead):=by
 intro x k hx hk
 refine run0 ?_
 obtain ⟨h0,h1,h2⟩:=hx
 simp -implicitDefEqProofs (maxSteps:=1000000) (disch:=omega) only [x_l_szLead,go_sem,IntWalk.i64_in]
 refine .of (c_l_szBoolS _ _ h0 hk) ?_
 simp -implicitDefEqProofs (maxSteps:=1000000) (disch:=omega) only [go_sem,IntWalk.i64_in]
 refine ⟨fun q0=>?_,fun q0=>?_⟩
 ·simp only [decide_eq_true_eq] at q0
  simp only [szLead,szAll,if_pos q0]
 ·simp only [decide_eq_false_iff_not] at q0
  have k1:0≤(left (k - (x.Acked.length:Nat)))∧(left (k - (x.Acked.length:Nat)))≤2 ^ 48:=⟨by omega,Int.le_trans (Sane.left _ _ hk.1) hk.2⟩
  refine .of (c_l_szBoolS _ _ h1 k1) ?_
  simp -implicitDefEqProofs (maxSteps:=1000000) (disch:=omega) only [go_sem,IntWalk.i64_in]
  refine ⟨fun q1=>?_,fun q1=>?_⟩
  ·simp only [decide_eq_true_eq] at q1
   simp only [szLead,szAll,if_neg q0,if_pos q1]
  ·simp only [decide_eq_false_iff_not] at q1
   have k2:0≤(left ((left (k - (x.Acked.length:Nat))) - (x.Ended.length:Nat)))∧(left ((left (k - (x.Acked.length:Nat))) - (x.Ended.length:Nat)))≤2 ^ 48:=⟨by omega,Int.le_trans (Sane.left _ _ k1.1) k1.2⟩
   refine .of (c_l_szStringS _ _ k2 h2.1 h2.2) ?_
   simp -implicitDefEqProofs (maxSteps:=1000000) (disch:=omega) only [go_sem,IntWalk.i64_in]
   refine ⟨fun q2=>?_,fun q2=>?_⟩
   ·simp only [decide_eq_true_eq] at q2
    simp only [szLead,szAll,if_neg q0,if_neg q1,if_pos q2]
   ·simp only [decide_eq_false_iff_not] at q2
    have k3:0≤(szSl szStr x.At (left ((left (k - (x.Acked.length:Nat))) - (x.Ended.length:Nat))))∧(szSl szStr x.At (left ((left (k - (x.Acked.length:Nat))) - (x.Ended.length:Nat))))≤2 ^ 48:=⟨by omega,Int.le_trans ((Sane.sl szStr_sane _) _ k2.1) k2.2⟩
    simp only [szLead,szAll,if_neg q0,if_neg q1,if_neg q2]
def x_l_toLead:FnX:=⟨20,[.cell 2 (some 4)],
  .q [.v 1 0,.op 2 (.alloc [.i 0,.nils 1,.nils 1,.nils 1])]
 (.q [.op 3 (.alloc [.i 0,.nils 1,.nils 1,.nils 1])]
 (.q [.f 4 1 0,.l 5 4,.f 6 3 0,.s 100001 1 6 5]
 (.q [.f 7 1 1,.l 8 7,.c 9 217 [8],.f 10 3 1,.s 100002 1 10 9]
 (.q [.f 11 1 2,.l 12 11,.c 13 217 [12],.f 14 3 2,.s 100003 1 14 13]
 (.q [.f 15 1 3,.l 16 15,.c 17 218 [16],.f 18 3 3,.s 100004 1 18 17]
 (.q [.L 19 4 3,.s 100005 4 2 19]
 .ret))))))⟩
theorem r_l_toLead {Te:TE} (c_l_toBoolS:C_l_toBoolS Te) (c_l_toStringS:C_l_toStringS Te):C_l_toLead (RF Te x_l_toLead):=by
 intro x hx
 refine run0 ?_
 obtain ⟨h0,h1,h2⟩:=hx
 simp -implicitDefEqProofs (maxSteps:=1000000) only [x_l_toLead,go_sem]
 refine C0 (c_l_toBoolS _ h0) ?_
 refine C0 (c_l_toBoolS _ h1) ?_
 exact D0 (c_l_toStringS _ h2)
def x_l_eqLead:FnX:=⟨28,[.tmp 4],
  .q [.v 2 0,.v 3 1,.F 4]
 (.seq (.q [.f 5 2 0,.l 6 5,.f 7 3 0,.l 8 7,.b 9 .neq 6 8]
 (.c 9 (.q [.F 4]
 .ret)))
 (.seq (.q [.f 10 2 1,.l 11 10,.f 12 3 1,.l 13 12,.c 14 223 [11,13],.N 15 14]
 (.c 15 (.q [.F 4]
 .ret)))
 (.seq (.q [.f 16 2 2,.l 17 16,.f 18 3 2,.l 19 18,.c 20 223 [17,19],.N 21 20]
 (.c 21 (.q [.F 4]
 .ret)))
 (.seq (.q [.f 22 2 3,.l 23 22,.f 24 3 3,.l 25 24,.c 26 224 [23,25],.N 27 26]
 (.c 27 (.q [.F 4]
 .ret)))
 (.q [.T 4]
 .ret)))))⟩
theorem r_l_eqLead {Te:TE} (c_l_eqBoolS:C_l_eqBoolS Te) (c_l_eqStringS:C_l_eqStringS Te):C_l_eqLead (RF Te x_l_eqLead):=by
 intro x y hx
 refine run0 ?_
 obtain ⟨h0,h1,h2⟩:=hx
 have key:(x=y)↔x.Phase=y.Phase∧x.Acked=y.Acked∧x.Ended=y.Ended∧x.At=y.At:=by cases x; cases y; simp
 simp only [key]
 clear key
 simp -implicitDefEqProofs (maxSteps:=1000000) only [x_l_eqLead,go_sem]
 refine ⟨fun q=>?_,fun q=>?_⟩
 ·have n0:¬ (x.Phase=y.Phase):=by simpa using q
  simp only [n0,false_and,and_false,true_and,decide_false]
 have e0:x.Phase=y.Phase:=by simpa using q
 clear q
 refine .of (c_l_eqBoolS _ _ h0) ?_
 simp -implicitDefEqProofs (maxSteps:=1000000) only [go_sem]
 refine ⟨fun q=>?_,fun q=>?_⟩
 ·have n1:¬ (x.Acked=y.Acked):=by simpa using q
  simp only [e0,n1,false_and,and_false,true_and,decide_false]
 have e1:x.Acked=y.Acked:=by simpa using q
 clear q
 refine .of (c_l_eqBoolS _ _ h1) ?_
 simp -implicitDefEqProofs (maxSteps:=1000000) only [go_sem]
 refine ⟨fun q=>?_,fun q=>?_⟩
 ·have n2:¬ (x.Ended=y.Ended):=by simpa using q
  simp only [e0,e1,n2,false_and,and_false,true_and,decide_false]
 have e2:x.Ended=y.Ended:=by simpa using q
 clear q
 refine .of (c_l_eqStringS _ _ h2) ?_
 simp -implicitDefEqProofs (maxSteps:=1000000) only [go_sem]
 refine ⟨fun q=>?_,fun q=>?_⟩
 ·have n3:¬ (x.At=y.At):=by simpa using q
  simp only [e0,e1,e2,n3,false_and,and_false,true_and,decide_false]
 have e3:x.At=y.At:=by simpa using q
 clear q
 simp only [e0,e1,e2,e3,true_and,and_true,decide_true]
def x_l_markLead:FnX:=⟨18,[.tmp 4],
  .q [.v 2 0,.i 4 0]
 (.q [.f 5 2 1,.l 6 5,.m 7 1,.op 8 (.io 228 (.t 6) [(.t 7)]),.m 1 8]
 (.q [.f 9 2 2,.l 10 9,.m 11 1,.op 12 (.io 228 (.t 10) [(.t 11)]),.m 1 12]
 (.q [.f 13 2 3,.l 14 13,.m 15 1,.op 16 (.io 229 (.t 14) [(.t 15)]),.m 1 16]
 (.q [.m 17 1,.m 4 17]
 .ret))))⟩
theorem r_l_markLead {Te:TE} (c_l_markBoolS:C_l_markBoolS Te) (c_l_markStringS:C_l_markStringS Te):C_l_markLead (RF Te x_l_markLead):=by
 intro x k hx hk
 refine run0 ?_
 obtain ⟨h0,h1,h2⟩:=hx
 simp -implicitDefEqProofs (maxSteps:=1000000) only [x_l_markLead,go_sem]
 refine .of (c_l_markBoolS _ _ h0 (by omega)) ?_
 try simp -implicitDefEqProofs (maxSteps:=1000000) only [go_sem]
 repeat refine ⟨sc,?_⟩
 try exact sf
 refine .of (c_l_markBoolS _ _ h1 (by omega)) ?_
 try simp -implicitDefEqProofs (maxSteps:=1000000) only [go_sem]
 repeat refine ⟨sc,?_⟩
 try exact sf
 refine .of (c_l_markStringS _ _ h2 (by omega)) ?_
 try simp -implicitDefEqProofs (maxSteps:=1000000) only [go_sem]
 repeat refine ⟨sc,?_⟩
 try exact sf
 try rfl
def x_l_heldLead:FnX:=⟨24,[.tmp 4],
  .q [.v 2 0,.i 4 0]
 (.q [.f 5 2 1,.l 6 5,.m 7 1,.c 8 237 [6,7],.m 1 8]
 (.seq (.q [.m 9 1,.B 10 .lss 9 0]
 (.c 10 (.q [.i 4 (-1)]
 .ret)))
 (.q [.f 11 2 2,.l 12 11,.m 13 1,.c 14 237 [12,13],.m 1 14]
 (.seq (.q [.m 15 1,.B 16 .lss 15 0]
 (.c 16 (.q [.i 4 (-1)]
 .ret)))
 (.q [.f 17 2 3,.l 18 17,.m 19 1,.c 20 238 [18,19],.m 1 20]
 (.seq (.q [.m 21 1,.B 22 .lss 21 0]
 (.c 22 (.q [.i 4 (-1)]
 .ret)))
 (.q [.m 23 1,.m 4 23]
 .ret)))))))⟩
theorem r_l_heldLead {Te:TE} (c_l_heldBoolS:C_l_heldBoolS Te) (c_l_heldStringS:C_l_heldStringS Te):C_l_heldLead (RF Te x_l_heldLead):=by
 intro x k hx hk
 refine run0 ?_
 obtain ⟨h0,h1,h2⟩:=hx
 simp -implicitDefEqProofs (maxSteps:=1000000) only [x_l_heldLead,go_sem]
 refine .of (c_l_heldBoolS _ _ h0 (by omega)) ?_
 simp -implicitDefEqProofs (maxSteps:=1000000) only [go_sem]
 refine ⟨fun q=>by simp only [decide_eq_true_eq] at q; omega,fun _=>?_⟩
 refine .of (c_l_heldBoolS _ _ h1 (by omega)) ?_
 simp -implicitDefEqProofs (maxSteps:=1000000) only [go_sem]
 refine ⟨fun q=>by simp only [decide_eq_true_eq] at q; omega,fun _=>?_⟩
 refine .of (c_l_heldStringS _ _ h2 (by omega)) ?_
 simp -implicitDefEqProofs (maxSteps:=1000000) only [go_sem]
 refine ⟨fun q=>by simp only [decide_eq_true_eq] at q; omega,fun _=>?_⟩
 rfl
def x_l_szClientS:FnX:=⟨27,[.tmp 4],
  .q [.i 4 0]
 (.q [.m 6 1,.m 7 0,.n 8 7,.b 9 .sub 6 8,.m 1 9]
 (.seq (.q [.m 10 1,.B 11 .lss 10 0]
 (.c 11 (.q [.i 4 (-1)]
 .ret)))
 (.seq (.q [.i 5 0]
 (.block 0 (.loop [0,1,5] (.seq (.q [.m 12 5,.m 13 0,.n 14 13,.b 15 .lss 12 14]
 (.cond 15 .skip (.exit 0)))
 (.seq (.block 1 (.q [.m 18 0,.m 19 5,.x 20 12 18 19,.L 21 12 20,.m 22 1,.c 23 214 [21,22],.m 1 23]
 (.q [.m 24 1,.B 25 .lss 24 0]
 (.c 25 (.q [.i 4 (-1)]
 .ret)))))
 (.reg [.m 16 5,.B 17 .add 16 1,.m 5 17]))))))
 (.norm [1] (.q [.m 26 1,.m 4 26]
 .ret)))))⟩
theorem r_l_szClientS {Te:TE} (c_l_szClient:C_l_szClient Te):C_l_szClientS (RF Te x_l_szClientS):=by
 intro l k hk hl hs
 refine run0 ?_
 simp -implicitDefEqProofs (maxSteps:=1000000) (disch:=omega) only [x_l_szClientS,go_sem,IntWalk.i64_in]
 refine ⟨fun h=>?_,fun h=>?_⟩
 ·simp only [decide_eq_true_eq] at h
  simp only [szSl,szAll,if_pos h]
 ·simp only [decide_eq_false_iff_not] at h
  refine loop_of (σ:=Nat×Int) (fun x=>⟨[(0,.one (.ro 12 (l.map (ClientV.enc false)))),(1,.one (.pv (.int .i64 x.2))),(5,.one (.pv (.int .i64 x.1)))],[],[(0,[slT false 12 (ClientV.enc false) l]),(1,[iT k])]⟩) (fun x=>x.1≤l.length∧0≤x.2∧x.2≤k∧szSl szClient l k=szAll ((l.drop x.1).map szClient) x.2) (fun x=>l.length - x.1) (0,k - l.length) ?_ ⟨Nat.zero_le _,by omega,by omega,by simp only [szSl,szAll,if_neg h,List.drop_zero]⟩ ?_
  ·simp -implicitDefEqProofs (maxSteps:=1000000) only [go_sem]; rfl
  ·rintro ⟨i,c⟩ ⟨hi,h0,h1,he⟩
   simp only at hi h0 h1 he
   simp -implicitDefEqProofs (maxSteps:=1000000) only [go_sem]
   refine ⟨fun h=>?_,fun h=>?_⟩
   ·have hi':i < l.length:=by simp only [decide_eq_true_eq] at h; omega
    have hsz:=hs l[i] (List.getElem_mem hi')
    have hsn:szClient l[i] c≤c:=szClient_sane l[i] c h0
    rw [List.drop_eq_getElem_cons hi'] at he
    simp -implicitDefEqProofs (maxSteps:=1000000) (disch:=omega) only [go_sem,List.getElem?_eq_getElem hi',IntWalk.i64_in]
    refine .of (c_l_szClient _ _ hsz ⟨h0,by omega⟩) ?_
    simp -implicitDefEqProofs (maxSteps:=1000000) only [go_sem]
    refine ⟨fun h2=>?_,fun h2=>?_⟩
    ·simp only [decide_eq_true_eq] at h2
     rw [he]
     simp only [List.map_cons,szAll,if_pos h2]
    ·simp only [decide_eq_false_iff_not] at h2
     refine ⟨(i + 1,szClient l[i] c),by rw [IntWalk.i64_in _ (by omega)]; rfl,⟨hi',by omega,by simp only; omega,?_⟩,by simp only; omega⟩
     rw [he]
     simp only [List.map_cons,szAll,if_neg h2]
   ·have hle:l.length≤i:=by simp only [decide_eq_false_iff_not] at h; omega
    rw [List.drop_of_length_le hle] at he
    simp only [szAll,List.map_nil] at he
    rw [he]
def x_l_toClientS:FnX:=⟨23,[.tmp 2],
  .q [.op 2 (.mv (.k (.one (.nils 12))))]
 (.q [.m 5 0,.n 6 5,.op 7 (.mks 12 128 [.pv (.int .i64 0),.pv (.int .i64 0),.pv (.bool false),.pv (.int .i64 0),.pv (.int .i64 0),.pv (.int .i64 0),.pv (.int .i64 0),.pv (.string ⟨#[]⟩),.pv (.string ⟨#[]⟩),.pv (.int .i64 0),.pv (.int .i64 0),.sl true 5 () []] (.t 6)),.m 3 7]
 (.seq (.q [.i 4 0]
 (.block 0 (.loop [0,3,4] (.seq (.q [.m 8 4,.m 9 0,.n 10 9,.b 11 .lss 8 10]
 (.cond 11 .skip (.exit 0)))
 (.seq (.block 1 (.reg [.m 14 3,.m 15 4,.m 16 0,.m 17 4,.x 18 12 16 17,.L 19 12 18,.c 20 220 [19],.x 21 12 14 15,.s 100001 12 21 20]))
 (.reg [.m 12 4,.B 13 .add 12 1,.m 4 13]))))))
 (.norm [3] (.q [.m 22 3,.m 2 22]
 .ret))))⟩
theorem r_l_toClientS {Te:TE} (c_l_toClient:C_l_toClient Te):C_l_toClientS (RF Te x_l_toClientS):=by
 intro l hl
 refine run0 ?_
 have hl1:=hl.1
 simp -implicitDefEqProofs (maxSteps:=1000000) (disch:=omega) only [x_l_toClientS,go_sem,IntWalk.i64_in]
 refine ⟨⟨by simp only [decide_eq_true_eq]; omega,by simp only [decide_eq_true_eq]; omega⟩,?_⟩
 refine loop_of (σ:=Nat) (fun i=>⟨[(0,.one (.ro 12 (l.map (ClientV.enc false)))),(3,.one (.rf 24 0 [] 12 0 l.length)),(4,.one (.pv (.int .i64 i)))],[],
  [(0,[slT false 12 (ClientV.enc false) l]),(24,[.sl true 12 () ((l.take i).map (ClientV.enc true)++List.replicate (l.length - i) [.pv (.int .i64 0),.pv (.int .i64 0),.pv (.bool false),.pv (.int .i64 0),.pv (.int .i64 0),.pv (.int .i64 0),.pv (.int .i64 0),.pv (.string ⟨#[]⟩),.pv (.string ⟨#[]⟩),.pv (.int .i64 0),.pv (.int .i64 0),.sl true 5 () []])])]⟩) (fun i=>i≤l.length) (fun i=>l.length - i) 0 ?_ (Nat.zero_le _) ?_
 ·simp -implicitDefEqProofs (maxSteps:=1000000) only [go_sem]; rfl
 ·intro i hi
  simp -implicitDefEqProofs (maxSteps:=1000000) only [go_sem]
  refine ⟨fun h=>?_,fun h=>?_⟩
  ·have hi':i < l.length:=by simp only [decide_eq_true_eq] at h; omega
   simp -implicitDefEqProofs (maxSteps:=1000000) only [go_sem,List.getElem?_eq_getElem hi',fill_len (ClientV.enc true) l [.pv (.int .i64 0),.pv (.int .i64 0),.pv (.bool false),.pv (.int .i64 0),.pv (.int .i64 0),.pv (.int .i64 0),.pv (.int .i64 0),.pv (.string ⟨#[]⟩),.pv (.string ⟨#[]⟩),.pv (.int .i64 0),.pv (.int .i64 0),.sl true 5 () []] hi,storeAp,setCells,List.getD_eq_getElem?_getD,fill_get (ClientV.enc true) l [.pv (.int .i64 0),.pv (.int .i64 0),.pv (.bool false),.pv (.int .i64 0),.pv (.int .i64 0),.pv (.int .i64 0),.pv (.int .i64 0),.pv (.string ⟨#[]⟩),.pv (.string ⟨#[]⟩),.pv (.int .i64 0),.pv (.int .i64 0),.sl true 5 () []] hi']
   refine .of (c_l_toClient _ (hl.2 _ (List.getElem_mem hi'))) ?_
   simp -implicitDefEqProofs (maxSteps:=1000000) only [go_sem,fill_len (ClientV.enc true) l [.pv (.int .i64 0),.pv (.int .i64 0),.pv (.bool false),.pv (.int .i64 0),.pv (.int .i64 0),.pv (.int .i64 0),.pv (.int .i64 0),.pv (.string ⟨#[]⟩),.pv (.string ⟨#[]⟩),.pv (.int .i64 0),.pv (.int .i64 0),.sl true 5 () []] hi,storeAp,setCells,List.getD_eq_getElem?_getD,fill_get (ClientV.enc true) l [.pv (.int .i64 0),.pv (.int .i64 0),.pv (.bool false),.pv (.int .i64 0),.pv (.int .i64 0),.pv (.int .i64 0),.pv (.int .i64 0),.pv (.string ⟨#[]⟩),.pv (.string ⟨#[]⟩),.pv (.int .i64 0),.pv (.int .i64 0),.sl true 5 () []] hi']
   repeat (first | refine ⟨by decide,?_⟩ | refine ⟨by simpa using hi',?_⟩)
   refine ⟨i + 1,?_,hi',by omega⟩
   rw [← fill_set (ClientV.enc true) l [.pv (.int .i64 0),.pv (.int .i64 0),.pv (.bool false),.pv (.int .i64 0),.pv (.int .i64 0),.pv (.int .i64 0),.pv (.int .i64 0),.pv (.string ⟨#[]⟩),.pv (.string ⟨#[]⟩),.pv (.int .i64 0),.pv (.int .i64 0),.sl true 5 () []] hi',IntWalk.i64_in _ (by omega)]
   rfl
  ·have:i=l.length:=by simp only [decide_eq_false_iff_not] at h; omega
   subst this
   simp -implicitDefEqProofs (maxSteps:=1000000) only [go_sem,fill_len (ClientV.enc true) l [.pv (.int .i64 0),.pv (.int .i64 0),.pv (.bool false),.pv (.int .i64 0),.pv (.int .i64 0),.pv (.int .i64 0),.pv (.int .i64 0),.pv (.string ⟨#[]⟩),.pv (.string ⟨#[]⟩),.pv (.int .i64 0),.pv (.int .i64 0),.sl true 5 () []] hi,fill_end]
   refine ⟨by simp,?_⟩
   simp [take_map]
def x_l_heldDoneS_4:XCode:=.seq (.q [.m 50 0,.m 51 5,.x 52 5 50 51,.f 53 52 4,.l 54 53,.m 55 1,.b 56 .neq 54 55]
 (.c 56 (.q [.i 4 (-1)]
 .ret)))
 (.reg [.m 57 1,.B 58 .add 57 1,.m 1 58])
def x_l_heldDoneS_3:XCode:=.seq (.seq (.draw [.m 40 0,.m 41 5,.x 42 5 40 41,.f 43 42 3,.l 44 43,.m 45 1,.c 46 146 [45],.b 47 .neq 44 46] [[],[],[0,1],[2],[3],[],[5],[4,6]])
 (.c 47 (.q [.i 4 (-1)]
 .ret)))
 (.q [.m 48 1,.B 49 .add 48 1,.m 1 49]
 x_l_heldDoneS_4)
def x_l_heldDoneS_2:XCode:=.seq (.seq (.draw [.m 30 0,.m 31 5,.x 32 5 30 31,.f 33 32 2,.l 34 33,.m 35 1,.c 36 146 [35],.b 37 .neq 34 36] [[],[],[0,1],[2],[3],[],[5],[4,6]])
 (.c 37 (.q [.i 4 (-1)]
 .ret)))
 (.q [.m 38 1,.B 39 .add 38 1,.m 1 39]
 x_l_heldDoneS_3)
def x_l_heldDoneS_1:XCode:=.seq (.q [.m 21 0,.m 22 5,.x 23 5 21 22,.f 24 23 1,.l 25 24,.m 26 1,.b 27 .neq 25 26]
 (.c 27 (.q [.i 4 (-1)]
 .ret)))
 (.q [.m 28 1,.B 29 .add 28 1,.m 1 29]
 x_l_heldDoneS_2)
def x_l_heldDoneS:FnX:=⟨60,[.tmp 4],
  .q [.i 4 0]
 (.seq (.q [.i 5 0]
 (.block 0 (.loop [0,1,5] (.seq (.q [.m 6 5,.m 7 0,.n 8 7,.b 9 .lss 6 8]
 (.cond 9 .skip (.exit 0)))
 (.seq (.block 1 (.seq (.q [.m 12 0,.m 13 5,.x 14 5 12 13,.f 15 14 0,.l 16 15,.m 17 1,.b 18 .neq 16 17]
 (.c 18 (.q [.i 4 (-1)]
 .ret)))
 (.q [.m 19 1,.B 20 .add 19 1,.m 1 20]
 x_l_heldDoneS_1)))
 (.reg [.m 10 5,.B 11 .add 10 1,.m 5 11]))))))
 (.norm [1] (.q [.m 59 1,.m 4 59]
 .ret)))⟩
theorem r_l_heldDoneS {Te:TE} (c_l_markText:C_l_markText Te):C_l_heldDoneS (RF Te x_l_heldDoneS):=by
 intro n k hl hk
 refine run0 ?_
 simp -implicitDefEqProofs (maxSteps:=1000000) (disch:=omega) only [x_l_heldDoneS,go_sem,IntWalk.i64_in]
 refine loop_of (σ:=Nat) (fun i=>⟨[(0,.one (.ro 5 ((marks 5 mkDone n k).map DoneV.row))),(1,.one (.pv (.int .i64 (k + (5 * i:Nat))))),(5,.one (.pv (.int .i64 i)))],[],[(0,[slT false 5 DoneV.row (marks 5 mkDone n k)]),(1,[iT k])]⟩) (fun i=>i≤n) (fun i=>n - i) 0 ?_ (Nat.zero_le _) ?_
 ·simp -implicitDefEqProofs (maxSteps:=1000000) only [go_sem]; simp
 ·intro i hi
  simp -implicitDefEqProofs (maxSteps:=1000000) only [go_sem,marks_length]
  refine ⟨fun h=>?_,fun h=>?_⟩
  ·have hi':i < n:=by simp only [decide_eq_true_eq] at h; omega
   try simp -implicitDefEqProofs (maxSteps:=1000000) (disch:=omega) only [go_sem,marks_get 5 mkDone k hi',IntWalk.i64_in,mkDone,bne_self_eq_false,decide_true,Bool.not_true]
   simp -implicitDefEqProofs (maxSteps:=1000000) (disch:=omega) only [x_l_heldDoneS_1,go_sem,marks_get 5 mkDone k hi',IntWalk.i64_in,mkDone,bne_self_eq_false,decide_true,Bool.not_true]
   simp -implicitDefEqProofs (maxSteps:=1000000) (disch:=omega) only [x_l_heldDoneS_2,go_sem,marks_get 5 mkDone k hi',IntWalk.i64_in,mkDone,bne_self_eq_false,decide_true,Bool.not_true]
   refine .of (c_l_markText _ (by omega)) ?_
   simp -implicitDefEqProofs (maxSteps:=1000000) (disch:=omega) only [go_sem,marks_get 5 mkDone k hi',IntWalk.i64_in,mkDone,bne_self_eq_false,decide_true,Bool.not_true]
   repeat (refine ⟨by decide,?_⟩)
   simp -implicitDefEqProofs (maxSteps:=1000000) (disch:=omega) only [x_l_heldDoneS_3,go_sem,marks_get 5 mkDone k hi',IntWalk.i64_in,mkDone,bne_self_eq_false,decide_true,Bool.not_true]
   refine .of (c_l_markText _ (by omega)) ?_
   simp -implicitDefEqProofs (maxSteps:=1000000) (disch:=omega) only [go_sem,marks_get 5 mkDone k hi',IntWalk.i64_in,mkDone,bne_self_eq_false,decide_true,Bool.not_true]
   repeat (refine ⟨by decide,?_⟩)
   simp -implicitDefEqProofs (maxSteps:=1000000) (disch:=omega) only [x_l_heldDoneS_4,go_sem,marks_get 5 mkDone k hi',IntWalk.i64_in,mkDone,bne_self_eq_false,decide_true,Bool.not_true]
   refine ⟨i + 1,?_,hi',by omega⟩
   rw [show k + ((5 * (i + 1):Nat):Int)=k + (5 * i:Nat) + 1 + 1 + 1 + 1 + 1 by omega]
   rfl
  ·have:i=n:=by simp only [decide_eq_false_iff_not] at h; omega
   subst this
   simp -implicitDefEqProofs (maxSteps:=1000000) only [go_sem]
def x_l_szClient:FnX:=⟨18,[.tmp 4],
  .q [.v 2 0,.i 4 0]
 (.q [.f 5 2 3,.L 6 8 5,.m 7 1,.c 8 215 [6,7],.m 1 8]
 (.seq (.q [.m 9 1,.B 10 .lss 9 0]
 (.c 10 (.q [.i 4 (-1)]
 .ret)))
 (.q [.f 11 2 11,.l 12 11,.m 13 1,.c 14 295 [12,13],.m 1 14]
 (.seq (.q [.m 15 1,.B 16 .lss 15 0]
 (.c 16 (.q [.i 4 (-1)]
 .ret)))
 (.q [.m 17 1,.m 4 17]
 .ret)))))⟩
theorem r_l_szClient {Te:TE} (c_l_szMsg:C_l_szMsg Te) (c_l_szDoneS:C_l_szDoneS Te):C_l_szClient (RF Te x_l_szClient):=by
 intro x k hx hk
 refine run0 ?_
 obtain ⟨h0,h1⟩:=hx
 simp -implicitDefEqProofs (maxSteps:=1000000) (disch:=omega) only [x_l_szClient,go_sem,IntWalk.i64_in]
 refine .of (c_l_szMsg _ _ h0 hk) ?_
 simp -implicitDefEqProofs (maxSteps:=1000000) (disch:=omega) only [go_sem,IntWalk.i64_in]
 refine ⟨fun q0=>?_,fun q0=>?_⟩
 ·simp only [decide_eq_true_eq] at q0
  simp only [szClient,szAll,if_pos q0]
 ·simp only [decide_eq_false_iff_not] at q0
  have k1:0≤(szMsg x.M k)∧(szMsg x.M k)≤2 ^ 48:=⟨by omega,Int.le_trans ((szMsg_sane _) _ hk.1) hk.2⟩
  refine .of (c_l_szDoneS _ _ k1 h1.1 h1.2) ?_
  simp -implicitDefEqProofs (maxSteps:=1000000) (disch:=omega) only [go_sem,IntWalk.i64_in]
  refine ⟨fun q1=>?_,fun q1=>?_⟩
  ·simp only [decide_eq_true_eq] at q1
   simp only [szClient,szAll,if_neg q0,if_pos q1]
  ·simp only [decide_eq_false_iff_not] at q1
   have k2:0≤(szSl szDone x.Dones (szMsg x.M k))∧(szSl szDone x.Dones (szMsg x.M k))≤2 ^ 48:=⟨by omega,Int.le_trans ((Sane.sl szDone_sane _) _ k1.1) k1.2⟩
   simp only [szClient,szAll,if_neg q0,if_neg q1]
def x_l_toClient:FnX:=⟨22,[.cell 2 (some 12)],
  .q [.v 1 0,.op 2 (.alloc [.i 0,.i 0,.F,.i 0,.i 0,.i 0,.i 0,.e,.e,.i 0,.i 0,.nils 5])]
 (.q [.op 3 (.alloc [.i 0,.i 0,.F,.i 0,.i 0,.i 0,.i 0,.e,.e,.i 0,.i 0,.nils 5])]
 (.q [.f 4 1 0,.l 5 4,.f 6 3 0,.s 100001 1 6 5]
 (.q [.f 7 1 1,.l 8 7,.f 9 3 1,.s 100002 1 9 8]
 (.q [.f 10 1 2,.l 11 10,.f 12 3 2,.s 100003 1 12 11]
 (.q [.f 13 1 3,.L 14 8 13,.c 15 221 [14],.f 16 3 3,.s 100004 8 16 15]
 (.q [.f 17 1 11,.l 18 17,.c 19 297 [18],.f 20 3 11,.s 100005 1 20 19]
 (.q [.L 21 12 3,.s 100006 12 2 21]
 .ret)))))))⟩
theorem r_l_toClient {Te:TE} (c_l_toMsg:C_l_toMsg Te) (c_l_toDoneS:C_l_toDoneS Te):C_l_toClient (RF Te x_l_toClient):=by
 intro x hx
 refine run0 ?_
 have h0:=hx
 simp -implicitDefEqProofs (maxSteps:=1000000) only [x_l_toClient,go_sem]
 refine C0 (c_l_toMsg _) ?_
 exact D0 (c_l_toDoneS _ h0)
def x_i_WriteSec:FnX:=⟨56,[.cell 6 (some 4)],
  .q [.v 3 0,.op 6 (.alloc [.nils 1,.nils 2,.i 0,.F])]
 (.q [.L 9 4 3,.c 10 245 [9],.op 7 (.alloc [.nils 1,.nils 2,.i 0,.F]),.s 100001 4 7 10]
 (.seq (.q [.L 11 4 3,.c 12 178 [11],.N 13 12,.m 14 13,.z 14 (.f 15 3 3),.z 14 (.l 16 15),.r 17 14 16,.m 18 17,.z 18 (.m 19 1),.z 18 (.f 20 3 0),.z 18 (.l 21 20),.z 18 (.n 22 21),.z 18 (.B 23 .sub 22 1),.z 18 (.op 24 (.call 90 [0,0,0] [(.t 19),(.i 0),(.t 23)])),.z 18 (.N 25 24),.r 26 18 25,.m 27 26,.z 27 (.m 28 2),.z 27 (.n 29 28),.z 27 (.B 30 .gtr 29 120),.r 31 27 30,.m 32 31,.z 32 (.f 33 3 1),.z 32 (.l 34 33),.z 32 (.n 35 34),.z 32 (.B 36 .eql 35 40),.r 37 32 36]
 (.c 37 (.q [.L 38 4 7,.s 100002 4 6 38]
 .ret)))
 (.q [.L 40 4 7,.op 41 (.call 311 [1] [(.t 40)]),.m 39 41,.e 42 39 0,.e 43 39 1,.s 100003 4 7 42,.m 8 43]
 (.seq (.q [.m 44 8]
 (.c 44 (.draw [.f 45 7 1,.l 46 45,.m 47 1,.m 48 2,.op 49 (.bslice 1 [(.t 48)]),.c 50 100 [49],.op 51 (.build [.i 0,.nils 1] [(0,1,(.t 47)),(1,1,(.t 50))]),.op 52 (.bslice 2 [(.t 51)]),.op 53 (.app 2 32 (.t 46) (.t 52)),.f 54 7 1,.s 100004 1 54 53] [[],[0],[],[],[3],[4],[2,5],[6],[1,7,5],[0,1,2,3,4,5,6,7,8],[9,8,8,0,1,2,3,4,5,6,7,8]])))
 (.q [.L 55 4 7,.s 100005 4 6 55]
 .ret)))))⟩
theorem r_i_WriteSec {Te:TE} (c_i_copyDev:C_i_copyDev Te) (c_i_DevOk:C_i_DevOk Te) (c_i_within:C_i_within Te) (c_i_burn:C_i_burn Te) (c_i_joined:C_i_joined Te):C_i_WriteSec (RF Te x_i_WriteSec):=by
 intro d n b hk hb
 have hin:=DevV.ok_in hk
 have hL:=hin.len (by decide)
 have hl:=hin.1.1
 have h40:=DevV.ok_cache hk
 have ws:IntKind.i64.wrap ((d.Secs.length:Int) - 1)=(d.Secs.length:Int) - 1:=IntWalk.i64_in _ (by omega)
 refine X0 x_i_WriteSec.eq_1 ?_
 refine C0 (c_i_copyDev d hL) ?_
 refine C1 (c_i_DevOk d (hin.mono (by decide))) hk ?_
 cases g1:d.Down
 rotate_left
 ·have e:=full_down (n:=n) (b:=b) g1
  try simp -implicitDefEqProofs (maxSteps:=1000000) only [go_sem,g1,e,take_all,DevV.enc]
  repeat refine ⟨sc,?_⟩
  try exact sf
  try rfl
 refine G2 g1 ws ?_
 refine C0 (c_i_within _ _ _) ?_
 cases g2:win n 0 ((d.Secs.length:Int) - 1)
 ·have e:=full_win (b:=b) g2
  try simp -implicitDefEqProofs (maxSteps:=1000000) only [go_sem,e,take_all,g1,DevV.enc]
  repeat refine ⟨sc,?_⟩
  try exact sf
  try rfl
 cases g3:decide ((b.length:Int) > 120)
 rotate_left
 ·have e:=full_len (d:=d) (n:=n) g3
  try simp -implicitDefEqProofs (maxSteps:=1000000) only [go_sem,g3,e,take_all,g1,DevV.enc]
  repeat refine ⟨sc,?_⟩
  try exact sf
  try rfl
 cases g4:decide ((d.Cache.length:Int)≥40)
 rotate_left
 ·have g5:((d.Cache.length:Int)==40)=true:=by simp only [decide_eq_true_eq] at g4; simp only [beq_iff_eq]; omega
  have e:=full_cache (n:=n) (b:=b) g4
  try simp -implicitDefEqProofs (maxSteps:=1000000) only [go_sem,g3,g5,e,take_all,g1,DevV.enc]
  repeat refine ⟨sc,?_⟩
  try exact sf
  try rfl
 have g5:((d.Cache.length:Int)==40)=false:=by simp only [decide_eq_false_iff_not] at g4; simp only [beq_eq_false_iff_ne]; omega
 have e:=not_full g1 g2 g3 g4
 refine G2 g3 g5 ?_
 have tb:=c_i_burn d
 simp only [DevV.enc,g1] at tb
 have bc:=burn_cache d
 have g40:d.burn.Cache.length < 40:=by rw [bc]; simp only [decide_eq_false_iff_not] at g4; omega
 cases g6:(d.Fuse==0)
 ·have g7:¬ d.Fuse=0:=by simpa using g6
  rw [if_neg g7] at e
  have ea:=app1W d.burn.Cache ⟨n,b⟩
  have et:List.take (d.burn.Cache.length + 1) (List.map (WrV.enc true) (d.burn.Cache++[⟨n,b⟩]))=List.map (WrV.enc true) (d.burn.Cache++[⟨n,b⟩]):=List.take_of_length_le (by simp)
  refine C1 (tb) g6 ?_
  refine .of (c_i_joined [b] (by rw [flat1]; omega) (by show 1≤2 ^ 31; decide)) ?_
  try simp -implicitDefEqProofs (maxSteps:=1000000) only [go_sem,flat1,take_all,ea,et,e,g1,DevV.put,DevV.enc]
  repeat refine ⟨sc,?_⟩
  try exact sf
  try rfl
 ·have g7:d.Fuse=0:=by simpa using g6
  rw [if_pos g7] at e
  refine .of (tb) ?_
  try simp -implicitDefEqProofs (maxSteps:=1000000) only [go_sem,g6,take_all,e,g1,DevV.enc]
  repeat refine ⟨sc,?_⟩
  try exact sf
  try rfl
def x_s_l10Write:FnX:=⟨53,[],
  .seq (.q [.m 6 0,.op 7 (.nilc (.t 6)),.f 8 7 3,.l 9 8,.m 10 9,.z 10 (.m 11 1),.z 10 (.m 12 0),.z 10 (.op 13 (.nilc (.t 12))),.z 10 (.f 14 13 0),.z 10 (.l 15 14),.z 10 (.n 16 15),.z 10 (.B 17 .sub 16 1),.z 10 (.op 18 (.call 120 [0,0,0] [(.t 11),(.i 0),(.t 17)])),.z 10 (.N 19 18),.r 20 10 19,.m 21 20,.z 21 (.m 22 2),.z 21 (.n 23 22),.z 21 (.B 24 .gtr 23 120),.r 25 21 24,.m 26 25,.z 26 (.m 27 0),.z 26 (.op 28 (.nilc (.t 27))),.z 26 (.f 29 28 1),.z 26 (.l 30 29),.z 26 (.n 31 30),.z 26 (.B 32 .geq 31 40),.r 33 26 32,.m 34 33,.z 34 (.m 35 0),.z 34 (.op 36 (.call 281 [6] [(.t 35)])),.z 34 (.N 37 36),.r 38 34 37]
 (.c 38 .ret))
 (.draw [.m 39 0,.m 40 0,.op 41 (.nilc (.t 40)),.f 42 41 1,.l 43 42,.m 44 1,.op 45 (.bslice 1 []),.m 46 2,.op 47 (.app 1 1 (.t 45) (.t 46)),.op 48 (.build [.i 0,.nils 1] [(0,1,(.t 44)),(1,1,(.t 47))]),.op 49 (.bslice 2 [(.t 48)]),.op 50 (.app 2 32 (.t 43) (.t 49)),.op 51 (.nilc (.t 39)),.f 52 51 1,.s 100001 1 52 50] [[],[],[1],[2],[3],[],[],[],[6,7],[5,8],[9],[4,10,8],[0,0,1,2,3,4,5,6,7,8,9,10,11],[12,0,1,2,3,4,5,6,7,8,9,10,11],[13,11,11,0,1,2,3,4,5,6,7,8,9,10,11]])⟩
theorem r_s_l10Write {Te:TE} (c_s_l1In:C_s_l1In Te) (c_s_l10Op:C_s_l10Op Te):C_s_l10Write (RF Te x_s_l10Write):=by
 intro d n b hd hb
 obtain ⟨hl,hc⟩:=hd
 have ws:IntKind.i64.wrap ((d.Secs.length:Int) - 1)=(d.Secs.length:Int) - 1:=IntWalk.i64_in _ (by omega)
 refine X0 x_s_l10Write.eq_1 ?_
 cases g1:d.Down
 rotate_left
 ·have e:=full_down (n:=n) (b:=b) g1
  try simp -implicitDefEqProofs (maxSteps:=1000000) only [go_sem,g1,e,take_all,DevV.enc]
  repeat refine ⟨sc,?_⟩
  try exact sf
  try rfl
 refine G2 g1 ws ?_
 refine C0 (c_s_l1In _ _ _) ?_
 cases g2:win n 0 ((d.Secs.length:Int) - 1)
 ·have e:=full_win (b:=b) g2
  try simp -implicitDefEqProofs (maxSteps:=1000000) only [go_sem,e,take_all,g1,DevV.enc]
  repeat refine ⟨sc,?_⟩
  try exact sf
  try rfl
 cases g3:decide ((b.length:Int) > 120)
 rotate_left
 ·have e:=full_len (d:=d) (n:=n) g3
  try simp -implicitDefEqProofs (maxSteps:=1000000) only [go_sem,g3,e,take_all,g1,DevV.enc]
  repeat refine ⟨sc,?_⟩
  try exact sf
  try rfl
 cases g4:decide ((d.Cache.length:Int)≥40)
 rotate_left
 ·have e:=full_cache (n:=n) (b:=b) g4
  try simp -implicitDefEqProofs (maxSteps:=1000000) only [go_sem,g3,g4,e,take_all,g1,DevV.enc]
  repeat refine ⟨sc,?_⟩
  try exact sf
  try rfl
 have e:=not_full g1 g2 g3 g4
 refine G2 g3 g4 ?_
 have tb:=c_s_l10Op d
 simp only [DevV.enc,g1] at tb
 have bc:=burn_cache d
 have g40:d.burn.Cache.length < 40:=by rw [bc]; simp only [decide_eq_false_iff_not] at g4; omega
 cases g6:(d.Fuse==0)
 ·have g7:¬ d.Fuse=0:=by simpa using g6
  rw [if_neg g7] at e
  have ea:=app1W d.burn.Cache ⟨n,b⟩
  have et:List.take (d.burn.Cache.length + 1) (List.map (WrV.enc true) (d.burn.Cache++[⟨n,b⟩]))=List.map (WrV.enc true) (d.burn.Cache++[⟨n,b⟩]):=List.take_of_length_le (by simp)
  refine .of (tb) ?_
  try simp -implicitDefEqProofs (maxSteps:=1000000) only [go_sem,g6,take_all,take_rows,ea,et,e,g1,DevV.put,DevV.enc]
  repeat refine ⟨sc,?_⟩
  try exact sf
  try rfl
 ·have g7:d.Fuse=0:=by simpa using g6
  rw [if_pos g7] at e
  refine .of (tb) ?_
  try simp -implicitDefEqProofs (maxSteps:=1000000) only [go_sem,g6,take_all,e,g1,DevV.enc]
  repeat refine ⟨sc,?_⟩
  try exact sf
  try rfl
def x_u_AppendRune:FnX:=⟨16,[.tmp 4],
  .q [.op 4 (.mv (.k (.one (.nils 1))))]
 (.seq (.q [.m 5 1,.op 6 (.conv (.int .u32) (.t 5)),.op 7 (.bin .leq (.t 6) (.k (.one (.pv (.int .u32 127)))))]
 (.c 7 (.q [.m 8 0,.m 9 1,.op 10 (.conv (.int .u8) (.t 9)),.op 11 (.bslice 1 [(.t 10)]),.op 12 (.app 1 1 (.t 8) (.t 11)),.m 4 12]
 .ret)))
 (.q [.m 13 0,.m 14 1,.op 15 (.call 328 [1,0] [(.t 13),(.t 14)]),.m 4 15]
 .ret))⟩
theorem r_u_AppendRune {Te:TE} (c_u_appendRuneNonASCII:C_u_appendRuneNonASCII Te):C_u_AppendRune (RF Te x_u_AppendRune):=by
 intro b m hb hm
 refine run0 ?_
 have w32:IntKind.u32.wrap (m:Int)=(m:Int):=by rw [IntKind.wrap_u32]; omega
 cases q:decide ((m:Int)≤127)
 ·have hq:¬ m≤127:=by simp only [decide_eq_false_iff_not] at q; omega
  simp -implicitDefEqProofs (maxSteps:=1000000) only [x_u_AppendRune,go_sem,w32,q]
  repeat refine ⟨sc,?_⟩
  try exact sf
  refine .of (c_u_appendRuneNonASCII b m hb ⟨by omega,hm⟩) ?_
  try simp -implicitDefEqProofs (maxSteps:=1000000) only [go_sem,List.length_append]
  repeat refine ⟨sc,?_⟩
  try exact sf
  rw [← List.length_append,take_map]
 ·have hq:m≤127:=by simp only [decide_eq_true_eq] at q; omega
  have ee:List.take (b.length + 1) (List.map uR b++[[uT (mkU (m:Int))]])=List.map uR (b++enc8 m):=by
   rw [List.take_of_length_le (by simp),mkU_nat]
   simp only [enc8,if_pos hq,List.map_append,List.map_cons,List.map_nil]
  simp -implicitDefEqProofs (maxSteps:=1000000) only [x_u_AppendRune,go_sem,w32,q,mkU_wrap,ee]
  repeat refine ⟨sc,?_⟩
  try exact sf
def x_i_PutSign:FnX:=⟨17,[.tmp 4],
  .q [.op 4 (.mv (.k (.one (.nils 1))))]
 (.q [.m 6 0,.op 7 (.bslice 1 [(.t 6)]),.c 8 100 [7],.m 5 8]
 (.seq (.q [.m 9 1,.c 10 270 [9],.N 11 10]
 (.c 11 (.q [.m 12 5,.m 4 12]
 .ret)))
 (.q [.m 13 5,.m 14 1,.op 15 (.conv (.int .i32) (.t 14)),.op 16 (.call 271 [1,0] [(.t 13),(.t 15)]),.m 4 16]
 .ret)))⟩
theorem r_i_PutSign {Te:TE} (c_i_joined:C_i_joined Te) (c_i_SignOk:C_i_SignOk Te) (c_u_AppendRune:C_u_AppendRune Te):C_i_PutSign (RF Te x_i_PutSign):=by
 intro b n hb
 refine X0 x_i_PutSign.eq_1 ?_
 refine .of (c_i_joined [b] (by rw [flat1]; omega) (by show 1≤2 ^ 31; decide)) ?_
 try simp -implicitDefEqProofs (maxSteps:=1000000) only [go_sem,flat1]
 repeat refine ⟨sc,?_⟩
 try exact sf
 refine C0 (c_i_SignOk _) ?_
 cases hn:signOk n
 ·try simp -implicitDefEqProofs (maxSteps:=1000000) only [go_sem,putSign,hn,if_false,take_map]
  repeat refine ⟨sc,?_⟩
  try exact sf
  try rfl
 ·obtain ⟨h0,h1,h2⟩:=signOk_in hn
  obtain ⟨m,rfl⟩:∃ m:Nat,n=m:=⟨n.toNat,by omega⟩
  have ep:putSign b (m:Int)=b++enc8 m:=by simp only [putSign,hn,if_true,Int.toNat_natCast]
  have w:IntKind.i32.wrap (m:Int)=(m:Int):=by rw [IntWalk.i32_in _ (by omega)]
  try simp -implicitDefEqProofs (maxSteps:=1000000) only [go_sem,w,take_map]
  repeat refine ⟨sc,?_⟩
  try exact sf
  refine .of (c_u_AppendRune b m hb ⟨by omega,by omega⟩) ?_
  try simp -implicitDefEqProofs (maxSteps:=1000000) only [go_sem,List.length_append]
  repeat refine ⟨sc,?_⟩
  try exact sf
  rw [ep]
  try rw [← List.length_append,take_map]
  try rfl
def x_l_toStore:FnX:=⟨19,[.cell 2 (some 9)],
  .q [.v 1 0,.op 2 (.alloc [.nils 1,.nils 2,.i 0,.F,.nils 7,.i 0,.nils 3,.i 0,.i 0])]
 (.q [.op 3 (.alloc [.nils 1,.nils 2,.i 0,.F,.nils 7,.i 0,.nils 3,.i 0,.i 0])]
 (.q [.f 4 1 0,.L 5 4 4,.c 6 344 [5],.f 7 3 0,.s 100001 4 7 6]
 (.q [.f 8 1 4,.L 9 3 8,.c 10 345 [9],.f 11 3 4,.s 100002 3 11 10]
 (.q [.f 12 1 7,.l 13 12,.f 14 3 7,.s 100003 1 14 13]
 (.q [.f 15 1 8,.l 16 15,.f 17 3 8,.s 100004 1 17 16]
 (.q [.L 18 9 3,.s 100005 9 2 18]
 .ret))))))⟩
theorem r_l_toStore {Te:TE} (c_l_toDev:C_l_toDev Te) (c_l_toTab:C_l_toTab Te):C_l_toStore (RF Te x_l_toStore):=by
 intro x hx
 refine run0 ?_
 obtain ⟨h0,h1⟩:=hx
 simp -implicitDefEqProofs (maxSteps:=1000000) only [x_l_toStore,go_sem]
 refine C0 (c_l_toDev _ h0) ?_
 exact D0 (c_l_toTab _ h1)
def x_l_eqStore:FnX:=⟨27,[.tmp 4],
  .q [.v 2 0,.v 3 1,.F 4]
 (.seq (.q [.f 5 2 0,.L 6 4 5,.f 7 3 0,.L 8 4 7,.c 9 347 [6,8],.N 10 9]
 (.c 10 (.q [.F 4]
 .ret)))
 (.seq (.q [.f 11 2 4,.L 12 3 11,.f 13 3 4,.L 14 3 13,.c 15 348 [12,14],.N 16 15]
 (.c 16 (.q [.F 4]
 .ret)))
 (.seq (.q [.f 17 2 7,.l 18 17,.f 19 3 7,.l 20 19,.b 21 .neq 18 20]
 (.c 21 (.q [.F 4]
 .ret)))
 (.seq (.q [.f 22 2 8,.l 23 22,.f 24 3 8,.l 25 24,.b 26 .neq 23 25]
 (.c 26 (.q [.F 4]
 .ret)))
 (.q [.T 4]
 .ret)))))⟩
theorem r_l_eqStore {Te:TE} (c_l_eqDev:C_l_eqDev Te) (c_l_eqTab:C_l_eqTab Te):C_l_eqStore (RF Te x_l_eqStore):=by
 intro x y hx
 refine run0 ?_
 obtain ⟨h0,h1⟩:=hx
 have key:(x=y)↔x.D=y.D∧x.T=y.T∧x.Gen=y.Gen∧x.Place=y.Place:=by cases x; cases y; simp
 simp only [key]
 clear key
 simp -implicitDefEqProofs (maxSteps:=1000000) only [x_l_eqStore,go_sem]
 refine .of (c_l_eqDev _ _ h0) ?_
 simp -implicitDefEqProofs (maxSteps:=1000000) only [go_sem]
 refine ⟨fun q=>?_,fun q=>?_⟩
 ·have n0:¬ (x.D=y.D):=by simpa using q
  simp only [n0,false_and,and_false,true_and,decide_false]
 have e0:x.D=y.D:=by simpa using q
 clear q
 refine .of (c_l_eqTab _ _ h1) ?_
 simp -implicitDefEqProofs (maxSteps:=1000000) only [go_sem]
 refine ⟨fun q=>?_,fun q=>?_⟩
 ·have n1:¬ (x.T=y.T):=by simpa using q
  simp only [e0,n1,false_and,and_false,true_and,decide_false]
 have e1:x.T=y.T:=by simpa using q
 clear q
 refine ⟨fun q=>?_,fun q=>?_⟩
 ·have n2:¬ (x.Gen=y.Gen):=by simpa using q
  simp only [e0,e1,n2,false_and,and_false,true_and,decide_false]
 have e2:x.Gen=y.Gen:=by simpa using q
 clear q
 refine ⟨fun q=>?_,fun q=>?_⟩
 ·have n3:¬ (x.Place=y.Place):=by simpa using q
  simp only [e0,e1,e2,n3,false_and,and_false,true_and,decide_false]
 have e3:x.Place=y.Place:=by simpa using q
 clear q
 simp only [e0,e1,e2,e3,true_and,and_true,decide_true]
def x_l_szNode:FnX:=⟨12,[.tmp 4],
  .q [.v 2 0,.i 4 0]
 (.q [.f 5 2 0,.L 6 9 5,.m 7 1,.c 8 294 [6,7],.m 1 8]
 (.seq (.q [.m 9 1,.B 10 .lss 9 0]
 (.c 10 (.q [.i 4 (-1)]
 .ret)))
 (.q [.m 11 1,.m 4 11]
 .ret)))⟩
theorem r_l_szNode {Te:TE} (c_l_szStore:C_l_szStore Te):C_l_szNode (RF Te x_l_szNode):=by
 intro x k hx hk
 refine run0 ?_
 have h0:=hx
 simp -implicitDefEqProofs (maxSteps:=1000000) (disch:=omega) only [x_l_szNode,go_sem,IntWalk.i64_in]
 refine .of (c_l_szStore _ _ h0 hk) ?_
 simp -implicitDefEqProofs (maxSteps:=1000000) (disch:=omega) only [go_sem,IntWalk.i64_in]
 refine ⟨fun q0=>?_,fun q0=>?_⟩
 ·simp only [decide_eq_true_eq] at q0
  simp only [szNode,szAll,if_pos q0]
 ·simp only [decide_eq_false_iff_not] at q0
  have k1:0≤(szStore x.S k)∧(szStore x.S k)≤2 ^ 48:=⟨by omega,Int.le_trans ((szStore_sane _) _ hk.1) hk.2⟩
  simp only [szNode,szAll,if_neg q0]
def x_l_toNode:FnX:=⟨12,[.cell 2 (some 10)],
  .q [.v 1 0,.op 2 (.alloc [.nils 1,.nils 2,.i 0,.F,.nils 7,.i 0,.nils 3,.i 0,.i 0,.i 0])]
 (.q [.op 3 (.alloc [.nils 1,.nils 2,.i 0,.F,.nils 7,.i 0,.nils 3,.i 0,.i 0,.i 0])]
 (.q [.f 4 1 0,.L 5 9 4,.c 6 296 [5],.f 7 3 0,.s 100001 9 7 6]
 (.q [.f 8 1 9,.l 9 8,.f 10 3 9,.s 100002 1 10 9]
 (.q [.L 11 10 3,.s 100003 10 2 11]
 .ret))))⟩
theorem r_l_toNode {Te:TE} (c_l_toStore:C_l_toStore Te):C_l_toNode (RF Te x_l_toNode):=by
 intro x hx
 refine run0 ?_
 have h0:x.S.Len:=hx
 simp -implicitDefEqProofs (maxSteps:=1000000) only [x_l_toNode,go_sem]
 exact D0 (c_l_toStore _ h0)
def x_l_eqNode:FnX:=⟨16,[.tmp 4],
  .q [.v 2 0,.v 3 1,.F 4]
 (.seq (.q [.f 5 2 0,.L 6 9 5,.f 7 3 0,.L 8 9 7,.c 9 298 [6,8],.N 10 9]
 (.c 10 (.q [.F 4]
 .ret)))
 (.seq (.q [.f 11 2 9,.l 12 11,.f 13 3 9,.l 14 13,.b 15 .neq 12 14]
 (.c 15 (.q [.F 4]
 .ret)))
 (.q [.T 4]
 .ret)))⟩
theorem r_l_eqNode {Te:TE} (c_l_eqStore:C_l_eqStore Te):C_l_eqNode (RF Te x_l_eqNode):=by
 intro x y hx
 refine run0 ?_
 have h0:x.S.Len:=hx
 have key:(x=y)↔x.S=y.S∧x.Cs=y.Cs:=by cases x; cases y; simp
 simp only [key]
 clear key
 simp -implicitDefEqProofs (maxSteps:=1000000) only [x_l_eqNode,go_sem]
 refine .of (c_l_eqStore _ _ h0) ?_
 simp -implicitDefEqProofs (maxSteps:=1000000) only [go_sem]
 refine ⟨fun q=>?_,fun q=>?_⟩
 ·have n0:¬ (x.S=y.S):=by simpa using q
  simp only [n0,false_and,and_false,true_and,decide_false]
 have e0:x.S=y.S:=by simpa using q
 clear q
 refine ⟨fun q=>?_,fun q=>?_⟩
 ·have n1:¬ (x.Cs=y.Cs):=by simpa using q
  simp only [e0,n1,false_and,and_false,true_and,decide_false]
 have e1:x.Cs=y.Cs:=by simpa using q
 clear q
 simp only [e0,e1,true_and,and_true,decide_true]
def x_l_szAct:FnX:=⟨20,[.tmp 4],
  .q [.v 2 0,.i 4 0]
 (.q [.m 5 1,.f 6 2 3,.l 7 6,.op 8 (.slen (.t 7)),.b 9 .sub 5 8,.m 1 9]
 (.seq (.q [.m 10 1,.B 11 .lss 10 0]
 (.c 11 (.q [.i 4 (-1)]
 .ret)))
 (.q [.m 12 1,.f 13 2 4,.l 14 13,.op 15 (.slen (.t 14)),.b 16 .sub 12 15,.m 1 16]
 (.seq (.q [.m 17 1,.B 18 .lss 17 0]
 (.c 18 (.q [.i 4 (-1)]
 .ret)))
 (.q [.m 19 1,.m 4 19]
 .ret)))))⟩
theorem r_l_szAct {Te:TE}:C_l_szAct (RF Te x_l_szAct):=by
 intro x k hx hk
 refine run0 ?_
 obtain ⟨h0,h1⟩:=hx
 simp -implicitDefEqProofs (maxSteps:=1000000) (disch:=omega) only [x_l_szAct,go_sem,IntWalk.i64_in]
 refine ⟨fun q0=>?_,fun q0=>?_⟩
 ·simp only [decide_eq_true_eq] at q0
  simp only [szAct,szAll,if_pos q0]
 ·simp only [decide_eq_false_iff_not] at q0
  have k1:0≤(k - (x.Key.size:Nat))∧(k - (x.Key.size:Nat))≤2 ^ 48:=⟨by omega,Int.le_trans (Sane.sub _ _ hk.1) hk.2⟩
  try simp -implicitDefEqProofs (maxSteps:=1000000) (disch:=omega) only [go_sem,IntWalk.i64_in]
  refine ⟨fun q1=>?_,fun q1=>?_⟩
  ·simp only [decide_eq_true_eq] at q1
   simp only [szAct,szAll,if_neg q0,if_pos q1]
  ·simp only [decide_eq_false_iff_not] at q1
   have k2:0≤((k - (x.Key.size:Nat)) - (x.Text.size:Nat))∧((k - (x.Key.size:Nat)) - (x.Text.size:Nat))≤2 ^ 48:=⟨by omega,Int.le_trans (Sane.sub _ _ k1.1) k1.2⟩
   simp only [szAct,szAll,if_neg q0,if_neg q1]
def x_l_toAct_4:XCode:=.q [.L 22 6 3,.s 100007 6 2 22]
 .ret
def x_l_toAct_3:XCode:=.q [.f 16 1 4,.l 17 16,.f 18 3 4,.s 100005 1 18 17]
 (.q [.f 19 1 5,.l 20 19,.f 21 3 5,.s 100006 1 21 20]
 x_l_toAct_4)
def x_l_toAct_2:XCode:=.q [.f 10 1 2,.l 11 10,.f 12 3 2,.s 100003 1 12 11]
 (.q [.f 13 1 3,.l 14 13,.f 15 3 3,.s 100004 1 15 14]
 x_l_toAct_3)
def x_l_toAct_1:XCode:=.q [.f 4 1 0,.l 5 4,.f 6 3 0,.s 100001 1 6 5]
 (.q [.f 7 1 1,.l 8 7,.f 9 3 1,.s 100002 1 9 8]
 x_l_toAct_2)
def x_l_toAct:FnX:=⟨23,[.cell 2 (some 6)],
  .q [.v 1 0,.op 2 (.alloc [.i 0,.i 0,.i 0,.e,.e,.i 0])]
 (.q [.op 3 (.alloc [.i 0,.i 0,.i 0,.e,.e,.i 0])]
 x_l_toAct_1)⟩
theorem r_l_toAct {Te:TE}:C_l_toAct (RF Te x_l_toAct):=by
 intro x
 refine run0 ?_
 simp -implicitDefEqProofs (maxSteps:=1000000) only [x_l_toAct,go_sem]
 simp -implicitDefEqProofs (maxSteps:=1000000) only [x_l_toAct_1,go_sem]
 simp -implicitDefEqProofs (maxSteps:=1000000) only [x_l_toAct_2,go_sem]
 simp -implicitDefEqProofs (maxSteps:=1000000) only [x_l_toAct_3,go_sem]
 simp -implicitDefEqProofs (maxSteps:=1000000) only [x_l_toAct_4,go_sem]
def x_l_eqClientS:FnX:=⟨27,[.tmp 4],
  .q [.F 4]
 (.seq (.q [.m 6 0,.n 7 6,.m 8 1,.n 9 8,.b 10 .neq 7 9]
 (.c 10 (.q [.F 4]
 .ret)))
 (.seq (.q [.i 5 0]
 (.block 0 (.loop [0,1,5] (.seq (.q [.m 11 5,.m 12 0,.n 13 12,.b 14 .lss 11 13]
 (.cond 14 .skip (.exit 0)))
 (.seq (.block 1 (.seq (.draw [.m 17 0,.m 18 5,.x 19 12 17 18,.L 20 12 19,.m 21 1,.m 22 5,.x 23 12 21 22,.L 24 12 23,.c 25 226 [20,24],.N 26 25] [[],[],[0,1],[2],[],[],[4,5],[6],[3,7],[8]])
 (.c 26 (.q [.F 4]
 .ret))))
 (.reg [.m 15 5,.B 16 .add 15 1,.m 5 16]))))))
 (.norm [] (.q [.T 4]
 .ret))))⟩
theorem r_l_eqClientS {Te:TE} (c_l_eqClient:C_l_eqClient Te):C_l_eqClientS (RF Te x_l_eqClientS):=by
 intro l m hl
 refine run0 ?_
 have hl1:=hl.1
 simp -implicitDefEqProofs (maxSteps:=1000000) (disch:=omega) only [x_l_eqClientS,go_sem,IntWalk.i64_in]
 refine ⟨fun h=>?_,fun h=>?_⟩
 ·have:l≠m:=fun e=>by simp [e] at h
  simp [this]
 ·have hlen:l.length=m.length:=by simp at h; omega
  refine loop_of (σ:=Nat) (fun i=>⟨[(0,.one (.ro 12 (l.map (ClientV.enc false)))),(1,.one (.ro 12 (m.map (ClientV.enc false)))),(5,.one (.pv (.int .i64 i)))],[],[(0,[slT false 12 (ClientV.enc false) l]),(1,[slT false 12 (ClientV.enc false) m])]⟩) (fun i=>i≤l.length∧l.take i=m.take i) (fun i=>l.length - i) 0 ?_ ⟨Nat.zero_le _,by simp⟩ ?_
  ·simp -implicitDefEqProofs (maxSteps:=1000000) only [go_sem]; rfl
  ·intro i ⟨hi,hs⟩
   simp -implicitDefEqProofs (maxSteps:=1000000) only [go_sem]
   refine ⟨fun h=>?_,fun h=>?_⟩
   ·have hi':i < l.length:=by simp only [decide_eq_true_eq] at h; omega
    have hj':i < m.length:=by omega
    simp -implicitDefEqProofs (maxSteps:=1000000) only [go_sem,List.getElem?_eq_getElem hi',List.getElem?_eq_getElem hj']
    refine .of (c_l_eqClient _ _ (hl.2 _ (List.getElem_mem hi'))) ?_
    simp -implicitDefEqProofs (maxSteps:=1000000) only [go_sem]
    refine ⟨by decide,fun h2=>?_,fun h2=>?_⟩
    ·have:l≠m:=fun e=>by subst e; simp at h2
     simp [this]
    ·refine ⟨i + 1,by rw [IntWalk.i64_in _ (by omega)]; rfl,⟨hi',same_step hi' hj' hs ?_⟩,by omega⟩
     simpa using h2
   ·have hle:l.length≤i:=by simp only [decide_eq_false_iff_not] at h; omega
    have:l=m:=same_end hle (by omega) hs
    simp [this]
def x_l_szByteSS:FnX:=⟨27,[.tmp 4],
  .q [.i 4 0]
 (.q [.m 6 1,.m 7 0,.n 8 7,.b 9 .sub 6 8,.m 1 9]
 (.seq (.q [.m 10 1,.B 11 .lss 10 0]
 (.c 11 (.q [.i 4 (-1)]
 .ret)))
 (.seq (.q [.i 5 0]
 (.block 0 (.loop [0,1,5] (.seq (.q [.m 12 5,.m 13 0,.n 14 13,.b 15 .lss 12 14]
 (.cond 15 .skip (.exit 0)))
 (.seq (.block 1 (.q [.m 18 0,.m 19 5,.x 20 1 18 19,.l 21 20,.m 22 1,.c 23 373 [21,22],.m 1 23]
 (.q [.m 24 1,.B 25 .lss 24 0]
 (.c 25 (.q [.i 4 (-1)]
 .ret)))))
 (.reg [.m 16 5,.B 17 .add 16 1,.m 5 17]))))))
 (.norm [1] (.q [.m 26 1,.m 4 26]
 .ret)))))⟩
theorem r_l_szByteSS {Te:TE} (c_l_szByteS:C_l_szByteS Te):C_l_szByteSS (RF Te x_l_szByteSS):=by
 intro l k hk hl hs
 refine run0 ?_
 simp -implicitDefEqProofs (maxSteps:=1000000) (disch:=omega) only [x_l_szByteSS,go_sem,IntWalk.i64_in]
 refine ⟨fun h=>?_,fun h=>?_⟩
 ·simp only [decide_eq_true_eq] at h
  simp only [szSl,szAll,if_pos h]
 ·simp only [decide_eq_false_iff_not] at h
  refine loop_of (σ:=Nat×Int) (fun x=>⟨[(0,.one (.ro 1 (l.map (fun y=>[slT false 1 uR y])))),(1,.one (.pv (.int .i64 x.2))),(5,.one (.pv (.int .i64 x.1)))],[],[(0,[slT false 1 (fun y=>[slT false 1 uR y]) l]),(1,[iT k])]⟩) (fun x=>x.1≤l.length∧0≤x.2∧x.2≤k∧szSl (fun y k=>left (k - y.length)) l k=szAll ((l.drop x.1).map (fun y k=>left (k - y.length))) x.2) (fun x=>l.length - x.1) (0,k - l.length) ?_ ⟨Nat.zero_le _,by omega,by omega,by simp only [szSl,szAll,if_neg h,List.drop_zero]⟩ ?_
  ·simp -implicitDefEqProofs (maxSteps:=1000000) only [go_sem]; rfl
  ·rintro ⟨i,c⟩ ⟨hi,h0,h1,he⟩
   simp only at hi h0 h1 he
   simp -implicitDefEqProofs (maxSteps:=1000000) only [go_sem]
   refine ⟨fun h=>?_,fun h=>?_⟩
   ·have hi':i < l.length:=by simp only [decide_eq_true_eq] at h; omega
    have hsz:=hs l[i] (List.getElem_mem hi')
    have hsn:left (c - (l[i].length:Nat))≤c:=(fun _=>Sane.left _) l[i] c h0
    rw [List.drop_eq_getElem_cons hi'] at he
    simp -implicitDefEqProofs (maxSteps:=1000000) (disch:=omega) only [go_sem,List.getElem?_eq_getElem hi',IntWalk.i64_in]
    refine .of (c_l_szByteS _ _ hsz ⟨h0,by omega⟩) ?_
    simp -implicitDefEqProofs (maxSteps:=1000000) only [go_sem]
    refine ⟨fun h2=>?_,fun h2=>?_⟩
    ·simp only [decide_eq_true_eq] at h2
     rw [he]
     simp only [List.map_cons,szAll,if_pos h2]
    ·simp only [decide_eq_false_iff_not] at h2
     refine ⟨(i + 1,left (c - (l[i].length:Nat))),by rw [IntWalk.i64_in _ (by omega)]; rfl,⟨hi',by omega,by simp only; omega,?_⟩,by simp only; omega⟩
     rw [he]
     simp only [List.map_cons,szAll,if_neg h2]
   ·have hle:l.length≤i:=by simp only [decide_eq_false_iff_not] at h; omega
    rw [List.drop_of_length_le hle] at he
    simp only [szAll,List.map_nil] at he
    rw [he]
def x_l_toByteSS:FnX:=⟨23,[.tmp 2],
  .q [.op 2 (.mv (.k (.one (.nils 1))))]
 (.q [.m 5 0,.n 6 5,.op 7 (.mks 1 24 [.sl true 1 () []] (.t 6)),.m 3 7]
 (.seq (.q [.i 4 0]
 (.block 0 (.loop [0,3,4] (.seq (.q [.m 8 4,.m 9 0,.n 10 9,.b 11 .lss 8 10]
 (.cond 11 .skip (.exit 0)))
 (.seq (.block 1 (.reg [.m 14 3,.m 15 4,.m 16 0,.m 17 4,.x 18 1 16 17,.l 19 18,.c 20 376 [19],.x 21 1 14 15,.s 100001 1 21 20]))
 (.reg [.m 12 4,.B 13 .add 12 1,.m 4 13]))))))
 (.norm [3] (.q [.m 22 3,.m 2 22]
 .ret))))⟩
theorem r_l_toByteSS {Te:TE} (c_l_toByteS:C_l_toByteS Te):C_l_toByteSS (RF Te x_l_toByteSS):=by
 intro l hl
 refine run0 ?_
 have hl1:=hl.1
 simp -implicitDefEqProofs (maxSteps:=1000000) (disch:=omega) only [x_l_toByteSS,go_sem,IntWalk.i64_in]
 refine ⟨⟨by simp only [decide_eq_true_eq]; omega,by simp only [decide_eq_true_eq]; omega⟩,?_⟩
 refine loop_of (σ:=Nat) (fun i=>⟨[(0,.one (.ro 1 (l.map (fun y=>[slT false 1 uR y])))),(3,.one (.rf 24 0 [] 1 0 l.length)),(4,.one (.pv (.int .i64 i)))],[],
  [(0,[slT false 1 (fun y=>[slT false 1 uR y]) l]),(24,[.sl true 1 () ((l.take i).map (fun y=>[slT true 1 uR y])++List.replicate (l.length - i) [.sl true 1 () []])])]⟩) (fun i=>i≤l.length) (fun i=>l.length - i) 0 ?_ (Nat.zero_le _) ?_
 ·simp -implicitDefEqProofs (maxSteps:=1000000) only [go_sem]; rfl
 ·intro i hi
  simp -implicitDefEqProofs (maxSteps:=1000000) only [go_sem]
  refine ⟨fun h=>?_,fun h=>?_⟩
  ·have hi':i < l.length:=by simp only [decide_eq_true_eq] at h; omega
   simp -implicitDefEqProofs (maxSteps:=1000000) only [go_sem,List.getElem?_eq_getElem hi',fill_len (fun y=>[slT true 1 uR y]) l [.sl true 1 () []] hi,storeAp,setCells,List.getD_eq_getElem?_getD,fill_get (fun y=>[slT true 1 uR y]) l [.sl true 1 () []] hi']
   refine .of (c_l_toByteS _ (Nat.le_trans (hl.2 _ (List.getElem_mem hi')) (by decide))) ?_
   simp -implicitDefEqProofs (maxSteps:=1000000) only [go_sem,fill_len (fun y=>[slT true 1 uR y]) l [.sl true 1 () []] hi,storeAp,setCells,List.getD_eq_getElem?_getD,fill_get (fun y=>[slT true 1 uR y]) l [.sl true 1 () []] hi']
   repeat (first | refine ⟨by decide,?_⟩ | refine ⟨by simpa using hi',?_⟩)
   refine ⟨i + 1,?_,hi',by omega⟩
   rw [← fill_set (fun y=>[slT true 1 uR y]) l [.sl true 1 () []] hi',IntWalk.i64_in _ (by omega)]
   rfl
  ·have:i=l.length:=by simp only [decide_eq_false_iff_not] at h; omega
   subst this
   simp -implicitDefEqProofs (maxSteps:=1000000) only [go_sem,fill_len (fun y=>[slT true 1 uR y]) l [.sl true 1 () []] hi,fill_end]
   refine ⟨by simp,?_⟩
   simp [take_map]
def x_l_eqByteSS:FnX:=⟨27,[.tmp 4],
  .q [.F 4]
 (.seq (.q [.m 6 0,.n 7 6,.m 8 1,.n 9 8,.b 10 .neq 7 9]
 (.c 10 (.q [.F 4]
 .ret)))
 (.seq (.q [.i 5 0]
 (.block 0 (.loop [0,1,5] (.seq (.q [.m 11 5,.m 12 0,.n 13 12,.b 14 .lss 11 13]
 (.cond 14 .skip (.exit 0)))
 (.seq (.block 1 (.seq (.draw [.m 17 0,.m 18 5,.x 19 1 17 18,.l 20 19,.m 21 1,.m 22 5,.x 23 1 21 22,.l 24 23,.c 25 380 [20,24],.N 26 25] [[],[],[0,1],[2],[],[],[4,5],[6],[3,7],[8]])
 (.c 26 (.q [.F 4]
 .ret))))
 (.reg [.m 15 5,.B 16 .add 15 1,.m 5 16]))))))
 (.norm [] (.q [.T 4]
 .ret))))⟩
theorem r_l_eqByteSS {Te:TE} (c_l_eqByteS:C_l_eqByteS Te):C_l_eqByteSS (RF Te x_l_eqByteSS):=by
 intro l m hl
 refine run0 ?_
 have hl1:=hl.1
 simp -implicitDefEqProofs (maxSteps:=1000000) (disch:=omega) only [x_l_eqByteSS,go_sem,IntWalk.i64_in]
 refine ⟨fun h=>?_,fun h=>?_⟩
 ·have:l≠m:=fun e=>by simp [e] at h
  simp [this]
 ·have hlen:l.length=m.length:=by simp at h; omega
  refine loop_of (σ:=Nat) (fun i=>⟨[(0,.one (.ro 1 (l.map (fun y=>[slT false 1 uR y])))),(1,.one (.ro 1 (m.map (fun y=>[slT false 1 uR y])))),(5,.one (.pv (.int .i64 i)))],[],[(0,[slT false 1 (fun y=>[slT false 1 uR y]) l]),(1,[slT false 1 (fun y=>[slT false 1 uR y]) m])]⟩) (fun i=>i≤l.length∧l.take i=m.take i) (fun i=>l.length - i) 0 ?_ ⟨Nat.zero_le _,by simp⟩ ?_
  ·simp -implicitDefEqProofs (maxSteps:=1000000) only [go_sem]; rfl
  ·intro i ⟨hi,hs⟩
   simp -implicitDefEqProofs (maxSteps:=1000000) only [go_sem]
   refine ⟨fun h=>?_,fun h=>?_⟩
   ·have hi':i < l.length:=by simp only [decide_eq_true_eq] at h; omega
    have hj':i < m.length:=by omega
    simp -implicitDefEqProofs (maxSteps:=1000000) only [go_sem,List.getElem?_eq_getElem hi',List.getElem?_eq_getElem hj']
    refine .of (c_l_eqByteS _ _ (Nat.le_trans (hl.2 _ (List.getElem_mem hi')) (by decide))) ?_
    simp -implicitDefEqProofs (maxSteps:=1000000) only [go_sem]
    refine ⟨by decide,fun h2=>?_,fun h2=>?_⟩
    ·have:l≠m:=fun e=>by subst e; simp at h2
     simp [this]
    ·refine ⟨i + 1,by rw [IntWalk.i64_in _ (by omega)]; rfl,⟨hi',same_step hi' hj' hs ?_⟩,by omega⟩
     simpa using h2
   ·have hle:l.length≤i:=by simp only [decide_eq_false_iff_not] at h; omega
    have:l=m:=same_end hle (by omega) hs
    simp [this]
def x_i_NodeNew:FnX:=⟨10,[.cell 2 (some 10)],
  .q [.op 2 (.alloc [.nils 1,.nils 2,.i 0,.F,.nils 7,.i 0,.nils 3,.i 0,.i 0,.i 0])]
 (.seq (.q [.m 3 0,.op 4 (.call 90 [0,0,0] [(.t 3),(.i 1),(.i 5)]),.N 5 4]
 (.c 5 (.q [.op 6 (.build [.nils 1,.nils 2,.i 0,.F,.nils 7,.i 0,.nils 3,.i 0,.i 0,.i 0] []),.s 100001 10 2 6]
 .ret)))
 (.q [.c 7 121 [],.m 8 0,.op 9 (.build [.nils 1,.nils 2,.i 0,.F,.nils 7,.i 0,.nils 3,.i 0,.i 0,.i 0] [(0,9,(.t 7)),(9,1,(.t 8))]),.s 100002 10 2 9]
 .ret))⟩
theorem r_i_NodeNew {Te:TE} (c_i_within:C_i_within Te) (c_i_Format:C_i_Format Te):C_i_NodeNew (RF Te x_i_NodeNew):=by
 intro cs
 refine X0 x_i_NodeNew.eq_1 ?_
 refine C0 (c_i_within _ _ _) ?_
 cases g:win cs 1 5
 ·have e:nodeNew cs=NodeV.zero:=by rw [nodeNew,g]; rfl
  exact F1 e
 ·have e:nodeNew cs=⟨fmt,cs⟩:=by rw [nodeNew,g]; rfl
  refine G0 ?_
  exact D1 (c_i_Format) e
def x_s_NodeNew:FnX:=⟨10,[.cell 2 (some 10)],
  .q [.op 2 (.alloc [.nils 1,.nils 2,.i 0,.F,.nils 7,.i 0,.nils 3,.i 0,.i 0,.i 0])]
 (.seq (.q [.m 3 0,.op 4 (.call 120 [0,0,0] [(.t 3),(.i 1),(.i 5)]),.N 5 4]
 (.c 5 (.q [.op 6 (.build [.nils 1,.nils 2,.i 0,.F,.nils 7,.i 0,.nils 3,.i 0,.i 0,.i 0] []),.s 100001 10 2 6]
 .ret)))
 (.q [.c 7 122 [],.m 8 0,.op 9 (.build [.nils 1,.nils 2,.i 0,.F,.nils 7,.i 0,.nils 3,.i 0,.i 0,.i 0] [(0,9,(.t 7)),(9,1,(.t 8))]),.s 100002 10 2 9]
 .ret))⟩
theorem r_s_NodeNew {Te:TE} (c_s_l1In:C_s_l1In Te) (c_s_Format:C_s_Format Te):C_s_NodeNew (RF Te x_s_NodeNew):=by
 intro cs
 refine X0 x_s_NodeNew.eq_1 ?_
 refine C0 (c_s_l1In _ _ _) ?_
 cases g:win cs 1 5
 ·have e:nodeNew cs=NodeV.zero:=by rw [nodeNew,g]; rfl
  exact F1 e
 ·have e:nodeNew cs=⟨fmt,cs⟩:=by rw [nodeNew,g]; rfl
  refine G0 ?_
  exact D1 (c_s_Format) e
def x_i_leadIn:FnX:=⟨8,[.cell 2 (some 4)],
  .q [.op 2 (.alloc [.i 0,.nils 1,.nils 1,.nils 1])]
 (.seq (.draw [.m 3 0,.op 4 (.mks 1 1 [.pv (.bool false)] (.i 2)),.op 5 (.mks 1 1 [.pv (.bool false)] (.i 2)),.op 6 (.mks 1 16 [.pv (.string ⟨#[]⟩)] (.i 2)),.op 7 (.build [.i 0,.nils 1,.nils 1,.nils 1] [(0,1,(.t 3)),(1,1,(.t 4)),(2,1,(.t 5)),(3,1,(.t 6))]),.s 100001 4 2 7] [[],[],[],[],[0,1,2,3],[4,0,1,2,3,4]])
 .ret)⟩
theorem r_i_leadIn {Te:TE}:C_i_leadIn (RF Te x_i_leadIn):=by
 intro p
 refine run0 ?_
 simp -implicitDefEqProofs (maxSteps:=1000000) only [x_i_leadIn,go_sem]
 exact ⟨rfl,rfl⟩
def x_s_l19At:FnX:=⟨8,[.cell 2 (some 4)],
  .q [.op 2 (.alloc [.i 0,.nils 1,.nils 1,.nils 1])]
 (.seq (.draw [.m 3 0,.op 4 (.mks 1 1 [.pv (.bool false)] (.i 2)),.op 5 (.mks 1 1 [.pv (.bool false)] (.i 2)),.op 6 (.mks 1 16 [.pv (.string ⟨#[]⟩)] (.i 2)),.op 7 (.build [.i 0,.nils 1,.nils 1,.nils 1] [(0,1,(.t 3)),(1,1,(.t 4)),(2,1,(.t 5)),(3,1,(.t 6))]),.s 100001 4 2 7] [[],[],[],[],[0,1,2,3],[4,0,1,2,3,4]])
 .ret)⟩
theorem r_s_l19At {Te:TE}:C_s_l19At (RF Te x_s_l19At):=by
 intro p
 refine run0 ?_
 simp -implicitDefEqProofs (maxSteps:=1000000) only [x_s_l19At,go_sem]
 exact ⟨rfl,rfl⟩
def x_i_LeadNew:FnX:=⟨2,[.cell 0 (some 4)],
  .q [.op 0 (.alloc [.i 0,.nils 1,.nils 1,.nils 1])]
 (.q [.op 1 (.call 236 [0] [(.i 0)]),.s 100001 4 0 1]
 .ret)⟩
theorem r_i_LeadNew {Te:TE} (c_i_leadIn:C_i_leadIn Te):C_i_LeadNew (RF Te x_i_LeadNew):=by
 refine run0 ?_
 simp -implicitDefEqProofs (maxSteps:=1000000) only [x_i_LeadNew,go_sem]
 exact D0 (c_i_leadIn _)
def x_s_LeadNew:FnX:=⟨2,[.cell 0 (some 4)],
  .q [.op 0 (.alloc [.i 0,.nils 1,.nils 1,.nils 1])]
 (.q [.op 1 (.call 235 [0] [(.i 0)]),.s 100001 4 0 1]
 .ret)⟩
theorem r_s_LeadNew {Te:TE} (c_s_l19At:C_s_l19At Te):C_s_LeadNew (RF Te x_s_LeadNew):=by
 refine run0 ?_
 simp -implicitDefEqProofs (maxSteps:=1000000) only [x_s_LeadNew,go_sem]
 exact D0 (c_s_l19At _)
def x_l_markStringS:FnX:=⟨20,[.tmp 4],
  .q [.i 4 0]
 (.seq (.q [.i 5 0]
 (.block 0 (.loop [0,1,5] (.seq (.q [.m 6 5,.m 7 0,.n 8 7,.b 9 .lss 6 8]
 (.cond 9 .skip (.exit 0)))
 (.seq (.block 1 (.q [.m 12 0,.m 13 5,.m 14 1,.c 15 146 [14],.x 16 1 12 13,.s 100001 1 16 15]
 (.reg [.m 17 1,.B 18 .add 17 1,.m 1 18])))
 (.reg [.m 10 5,.B 11 .add 10 1,.m 5 11]))))))
 (.norm [1] (.q [.m 19 1,.m 4 19]
 .ret)))⟩
theorem r_l_markStringS {Te:TE} (c_l_markText:C_l_markText Te):C_l_markStringS (RF Te x_l_markStringS):=by
 intro l k hl hk
 refine run0 ?_
 simp -implicitDefEqProofs (maxSteps:=1000000) (disch:=omega) only [x_l_markStringS,go_sem,IntWalk.i64_in]
 refine loop_of (σ:=Nat) (fun i=>⟨[(0,.one (.rf 0 0 [] 1 0 l.length)),(1,.one (.pv (.int .i64 (k + (1 * i:Nat))))),(5,.one (.pv (.int .i64 i)))],[],[(0,[.sl true 1 () ((marks 1 mkS i k).map sR++(l.drop i).map sR)]),(1,[iT k])]⟩) (fun i=>i≤l.length) (fun i=>l.length - i) 0 ?_ (Nat.zero_le _) ?_
 ·simp -implicitDefEqProofs (maxSteps:=1000000) only [go_sem]; simp [marks]
 ·intro i hi
  simp -implicitDefEqProofs (maxSteps:=1000000) only [go_sem]
  refine ⟨fun h=>?_,fun h=>?_⟩
  ·have hi':i < l.length:=by simp only [decide_eq_true_eq] at h; omega
   try simp -implicitDefEqProofs (maxSteps:=1000000) (disch:=omega) only [go_sem,storeAp,setCells,List.length_set,List.set_set,mark_len sR 1 mkS l k hi,List.getD_eq_getElem?_getD,mark_get sR 1 mkS l k hi',mark_reget sR 1 mkS l k hi',Option.getD_some,IntWalk.i64_in]
   repeat (first | refine ⟨by decide,?_⟩ | refine ⟨decide_eq_true hi',?_⟩)
   refine .of (c_l_markText _ (by omega)) ?_
   simp -implicitDefEqProofs (maxSteps:=1000000) (disch:=omega) only [go_sem,storeAp,setCells,List.length_set,List.set_set,mark_len sR 1 mkS l k hi,List.getD_eq_getElem?_getD,mark_get sR 1 mkS l k hi',mark_reget sR 1 mkS l k hi',Option.getD_some,IntWalk.i64_in]
   repeat (first | refine ⟨by decide,?_⟩ | refine ⟨decide_eq_true hi',?_⟩)
   refine ⟨i + 1,?_,hi',by omega⟩
   rw [← mark_set sR 1 mkS l k hi',show k + ((1 * (i + 1):Nat):Int)=k + (1 * i:Nat) + 1 by omega]
   rfl
  ·have:i=l.length:=by simp only [decide_eq_false_iff_not] at h; omega
   subst this
   simp -implicitDefEqProofs (maxSteps:=1000000) only [go_sem,mark_end]
def x_l_heldStringS:FnX:=⟨22,[.tmp 4],
  .q [.i 4 0]
 (.seq (.q [.i 5 0]
 (.block 0 (.loop [0,1,5] (.seq (.q [.m 6 5,.m 7 0,.n 8 7,.b 9 .lss 6 8]
 (.cond 9 .skip (.exit 0)))
 (.seq (.block 1 (.seq (.seq (.draw [.m 12 0,.m 13 5,.x 14 1 12 13,.l 15 14,.m 16 1,.c 17 146 [16],.b 18 .neq 15 17] [[],[],[0,1],[2],[],[4],[3,5]])
 (.c 18 (.q [.i 4 (-1)]
 .ret)))
 (.reg [.m 19 1,.B 20 .add 19 1,.m 1 20])))
 (.reg [.m 10 5,.B 11 .add 10 1,.m 5 11]))))))
 (.norm [1] (.q [.m 21 1,.m 4 21]
 .ret)))⟩
theorem r_l_heldStringS {Te:TE} (c_l_markText:C_l_markText Te):C_l_heldStringS (RF Te x_l_heldStringS):=by
 intro n k hl hk
 refine run0 ?_
 simp -implicitDefEqProofs (maxSteps:=1000000) (disch:=omega) only [x_l_heldStringS,go_sem,IntWalk.i64_in]
 refine loop_of (σ:=Nat) (fun i=>⟨[(0,.one (.ro 1 ((marks 1 mkS n k).map sR))),(1,.one (.pv (.int .i64 (k + (1 * i:Nat))))),(5,.one (.pv (.int .i64 i)))],[],[(0,[slT false 1 sR (marks 1 mkS n k)]),(1,[iT k])]⟩) (fun i=>i≤n) (fun i=>n - i) 0 ?_ (Nat.zero_le _) ?_
 ·simp -implicitDefEqProofs (maxSteps:=1000000) only [go_sem]; simp
 ·intro i hi
  simp -implicitDefEqProofs (maxSteps:=1000000) only [go_sem,marks_length]
  refine ⟨fun h=>?_,fun h=>?_⟩
  ·have hi':i < n:=by simp only [decide_eq_true_eq] at h; omega
   try simp -implicitDefEqProofs (maxSteps:=1000000) (disch:=omega) only [go_sem,marks_get 1 mkS k hi',IntWalk.i64_in,bne_self_eq_false,decide_true,Bool.not_true]
   refine .of (c_l_markText _ (by omega)) ?_
   simp -implicitDefEqProofs (maxSteps:=1000000) (disch:=omega) only [go_sem,marks_get 1 mkS k hi',IntWalk.i64_in,bne_self_eq_false,decide_true,Bool.not_true]
   repeat (refine ⟨by decide,?_⟩)
   refine ⟨i + 1,?_,hi',by omega⟩
   rw [show k + ((1 * (i + 1):Nat):Int)=k + (1 * i:Nat) + 1 by omega]
   rfl
  ·have:i=n:=by simp only [decide_eq_false_iff_not] at h; omega
   subst this
   simp -implicitDefEqProofs (maxSteps:=1000000) only [go_sem]
end Go.X

