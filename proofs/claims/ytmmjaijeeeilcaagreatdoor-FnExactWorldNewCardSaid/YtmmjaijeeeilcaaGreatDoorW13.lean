/- Texts: CEc CT CVn CEc_11 CVi CEb CVj_2 CC_3 CEb_2 CVe CL. -/
import Derived.Test.YtmmjaijeeeilcaaGreatDoorW04
set_option linter.unusedVariables false
set_option linter.unusedSimpArgs false
namespace Go.X
set_option maxRecDepth 100000
set_option maxHeartbeats 8000000
def x_l_szActSS:FnX:=⟨27,[.tmp 4],
  .q [.i 4 0]
 (.q [.m 6 1,.m 7 0,.n 8 7,.b 9 .sub 6 8,.m 1 9]
 (.seq (.q [.m 10 1,.B 11 .lss 10 0]
 (.c 11 (.q [.i 4 (-1)]
 .ret)))
 (.seq (.q [.i 5 0]
 (.block 0 (.loop [0,1,5] (.seq (.q [.m 12 5,.m 13 0,.n 14 13,.b 15 .lss 12 14]
 (.cond 15 .skip (.exit 0)))
 (.seq (.block 1 (.q [.m 18 0,.m 19 5,.x 20 1 18 19,.l 21 20,.m 22 1,.c 23 127 [21,22],.m 1 23]
 (.q [.m 24 1,.B 25 .lss 24 0]
 (.c 25 (.q [.i 4 (-1)]
 .ret)))))
 (.reg [.m 16 5,.B 17 .add 16 1,.m 5 17]))))))
 (.norm [1] (.q [.m 26 1,.m 4 26]
 .ret)))))⟩
theorem r_l_szActSS {Te:TE} (c_l_szActS:C_l_szActS Te):C_l_szActSS (RF Te x_l_szActSS):=by
 intro l k hk hl hs
 refine run0 ?_
 simp -implicitDefEqProofs (maxSteps:=1000000) (disch:=omega) only [x_l_szActSS,go_sem,IntWalk.i64_in]
 refine ⟨fun h=>?_,fun h=>?_⟩
 ·simp only [decide_eq_true_eq] at h
  simp only [szSl,szAll,if_pos h]
 ·simp only [decide_eq_false_iff_not] at h
  refine loop_of (σ:=Nat×Int) (fun x=>⟨[(0,.one (.ro 1 (l.map (fun y=>[slT false 6 ActV.row y])))),(1,.one (.pv (.int .i64 x.2))),(5,.one (.pv (.int .i64 x.1)))],[],[(0,[slT false 1 (fun y=>[slT false 6 ActV.row y]) l]),(1,[iT k])]⟩) (fun x=>x.1≤l.length∧0≤x.2∧x.2≤k∧szSl (szSl szAct) l k=szAll ((l.drop x.1).map (szSl szAct)) x.2) (fun x=>l.length - x.1) (0,k - l.length) ?_ ⟨Nat.zero_le _,by omega,by omega,by simp only [szSl,szAll,if_neg h,List.drop_zero]⟩ ?_
  ·simp -implicitDefEqProofs (maxSteps:=1000000) only [go_sem]; rfl
  ·rintro ⟨i,c⟩ ⟨hi,h0,h1,he⟩
   simp only at hi h0 h1 he
   simp -implicitDefEqProofs (maxSteps:=1000000) only [go_sem]
   refine ⟨fun h=>?_,fun h=>?_⟩
   ·have hi':i < l.length:=by simp only [decide_eq_true_eq] at h; omega
    have hsz:=hs l[i] (List.getElem_mem hi')
    have hsn:szSl szAct l[i] c≤c:=(Sane.sl szAct_sane) l[i] c h0
    rw [List.drop_eq_getElem_cons hi'] at he
    simp -implicitDefEqProofs (maxSteps:=1000000) (disch:=omega) only [go_sem,List.getElem?_eq_getElem hi',IntWalk.i64_in]
    refine .of (c_l_szActS _ _ ⟨h0,by omega⟩ hsz.1 hsz.2) ?_
    simp -implicitDefEqProofs (maxSteps:=1000000) only [go_sem]
    refine ⟨fun h2=>?_,fun h2=>?_⟩
    ·simp only [decide_eq_true_eq] at h2
     rw [he]
     simp only [List.map_cons,szAll,if_pos h2]
    ·simp only [decide_eq_false_iff_not] at h2
     refine ⟨(i + 1,szSl szAct l[i] c),by rw [IntWalk.i64_in _ (by omega)]; rfl,⟨hi',by omega,by simp only; omega,?_⟩,by simp only; omega⟩
     rw [he]
     simp only [List.map_cons,szAll,if_neg h2]
   ·have hle:l.length≤i:=by simp only [decide_eq_false_iff_not] at h; omega
    rw [List.drop_of_length_le hle] at he
    simp only [szAll,List.map_nil] at he
    rw [he]
def x_l_toActSS:FnX:=⟨23,[.tmp 2],
  .q [.op 2 (.mv (.k (.one (.nils 1))))]
 (.q [.m 5 0,.n 6 5,.op 7 (.mks 1 24 [.sl true 6 () []] (.t 6)),.m 3 7]
 (.seq (.q [.i 4 0]
 (.block 0 (.loop [0,3,4] (.seq (.q [.m 8 4,.m 9 0,.n 10 9,.b 11 .lss 8 10]
 (.cond 11 .skip (.exit 0)))
 (.seq (.block 1 (.reg [.m 14 3,.m 15 4,.m 16 0,.m 17 4,.x 18 1 16 17,.l 19 18,.c 20 133 [19],.x 21 1 14 15,.s 100001 1 21 20]))
 (.reg [.m 12 4,.B 13 .add 12 1,.m 4 13]))))))
 (.norm [3] (.q [.m 22 3,.m 2 22]
 .ret))))⟩
theorem r_l_toActSS {Te:TE} (c_l_toActS:C_l_toActS Te):C_l_toActSS (RF Te x_l_toActSS):=by
 intro l hl
 refine run0 ?_
 have hl1:=hl.1
 simp -implicitDefEqProofs (maxSteps:=1000000) (disch:=omega) only [x_l_toActSS,go_sem,IntWalk.i64_in]
 refine ⟨⟨by simp only [decide_eq_true_eq]; omega,by simp only [decide_eq_true_eq]; omega⟩,?_⟩
 refine loop_of (σ:=Nat) (fun i=>⟨[(0,.one (.ro 1 (l.map (fun y=>[slT false 6 ActV.row y])))),(3,.one (.rf 24 0 [] 1 0 l.length)),(4,.one (.pv (.int .i64 i)))],[],
  [(0,[slT false 1 (fun y=>[slT false 6 ActV.row y]) l]),(24,[.sl true 1 () ((l.take i).map (fun y=>[slT true 6 ActV.row y])++List.replicate (l.length - i) [.sl true 6 () []])])]⟩) (fun i=>i≤l.length) (fun i=>l.length - i) 0 ?_ (Nat.zero_le _) ?_
 ·simp -implicitDefEqProofs (maxSteps:=1000000) only [go_sem]; rfl
 ·intro i hi
  simp -implicitDefEqProofs (maxSteps:=1000000) only [go_sem]
  refine ⟨fun h=>?_,fun h=>?_⟩
  ·have hi':i < l.length:=by simp only [decide_eq_true_eq] at h; omega
   simp -implicitDefEqProofs (maxSteps:=1000000) only [go_sem,List.getElem?_eq_getElem hi',fill_len (fun y=>[slT true 6 ActV.row y]) l [.sl true 6 () []] hi,storeAp,setCells,List.getD_eq_getElem?_getD,fill_get (fun y=>[slT true 6 ActV.row y]) l [.sl true 6 () []] hi']
   refine .of (c_l_toActS _ (Nat.le_trans (hl.2 _ (List.getElem_mem hi')) (by decide))) ?_
   simp -implicitDefEqProofs (maxSteps:=1000000) only [go_sem,fill_len (fun y=>[slT true 6 ActV.row y]) l [.sl true 6 () []] hi,storeAp,setCells,List.getD_eq_getElem?_getD,fill_get (fun y=>[slT true 6 ActV.row y]) l [.sl true 6 () []] hi']
   repeat (first | refine ⟨by decide,?_⟩ | refine ⟨by simpa using hi',?_⟩)
   refine ⟨i + 1,?_,hi',by omega⟩
   rw [← fill_set (fun y=>[slT true 6 ActV.row y]) l [.sl true 6 () []] hi',IntWalk.i64_in _ (by omega)]
   rfl
  ·have:i=l.length:=by simp only [decide_eq_false_iff_not] at h; omega
   subst this
   simp -implicitDefEqProofs (maxSteps:=1000000) only [go_sem,fill_len (fun y=>[slT true 6 ActV.row y]) l [.sl true 6 () []] hi,fill_end]
   refine ⟨by simp,?_⟩
   simp [take_map]
def x_l_eqActSS:FnX:=⟨27,[.tmp 4],
  .q [.F 4]
 (.seq (.q [.m 6 0,.n 7 6,.m 8 1,.n 9 8,.b 10 .neq 7 9]
 (.c 10 (.q [.F 4]
 .ret)))
 (.seq (.q [.i 5 0]
 (.block 0 (.loop [0,1,5] (.seq (.q [.m 11 5,.m 12 0,.n 13 12,.b 14 .lss 11 13]
 (.cond 14 .skip (.exit 0)))
 (.seq (.block 1 (.seq (.draw [.m 17 0,.m 18 5,.x 19 1 17 18,.l 20 19,.m 21 1,.m 22 5,.x 23 1 21 22,.l 24 23,.c 25 50 [20,24],.N 26 25] [[],[],[0,1],[2],[],[],[4,5],[6],[3,7],[8]])
 (.c 26 (.q [.F 4]
 .ret))))
 (.reg [.m 15 5,.B 16 .add 15 1,.m 5 16]))))))
 (.norm [] (.q [.T 4]
 .ret))))⟩
theorem r_l_eqActSS {Te:TE} (c_l_eqActS:C_l_eqActS Te):C_l_eqActSS (RF Te x_l_eqActSS):=by
 intro l m hl
 refine run0 ?_
 have hl1:=hl.1
 simp -implicitDefEqProofs (maxSteps:=1000000) (disch:=omega) only [x_l_eqActSS,go_sem,IntWalk.i64_in]
 refine ⟨fun h=>?_,fun h=>?_⟩
 ·have:l≠m:=fun e=>by simp [e] at h
  simp [this]
 ·have hlen:l.length=m.length:=by simp at h; omega
  refine loop_of (σ:=Nat) (fun i=>⟨[(0,.one (.ro 1 (l.map (fun y=>[slT false 6 ActV.row y])))),(1,.one (.ro 1 (m.map (fun y=>[slT false 6 ActV.row y])))),(5,.one (.pv (.int .i64 i)))],[],[(0,[slT false 1 (fun y=>[slT false 6 ActV.row y]) l]),(1,[slT false 1 (fun y=>[slT false 6 ActV.row y]) m])]⟩) (fun i=>i≤l.length∧l.take i=m.take i) (fun i=>l.length - i) 0 ?_ ⟨Nat.zero_le _,by simp⟩ ?_
  ·simp -implicitDefEqProofs (maxSteps:=1000000) only [go_sem]; rfl
  ·intro i ⟨hi,hs⟩
   simp -implicitDefEqProofs (maxSteps:=1000000) only [go_sem]
   refine ⟨fun h=>?_,fun h=>?_⟩
   ·have hi':i < l.length:=by simp only [decide_eq_true_eq] at h; omega
    have hj':i < m.length:=by omega
    simp -implicitDefEqProofs (maxSteps:=1000000) only [go_sem,List.getElem?_eq_getElem hi',List.getElem?_eq_getElem hj']
    refine .of (c_l_eqActS _ _ (Nat.le_trans (hl.2 _ (List.getElem_mem hi')) (by decide))) ?_
    simp -implicitDefEqProofs (maxSteps:=1000000) only [go_sem]
    refine ⟨by decide,fun h2=>?_,fun h2=>?_⟩
    ·have:l≠m:=fun e=>by subst e; simp at h2
     simp [this]
    ·refine ⟨i + 1,by rw [IntWalk.i64_in _ (by omega)]; rfl,⟨hi',same_step hi' hj' hs ?_⟩,by omega⟩
     simpa using h2
   ·have hle:l.length≤i:=by simp only [decide_eq_false_iff_not] at h; omega
    have:l=m:=same_end hle (by omega) hs
    simp [this]
def x_s_SignOk:FnX:=⟨10,[.tmp 2],
  .q [.F 2]
 (.q [.m 3 0,.op 4 (.call 120 [0,0,0] [(.t 3),(.i 0),(.i 1114111)]),.m 5 4,.y 5 (.m 6 0),.y 5 (.op 7 (.call 120 [0,0,0] [(.t 6),(.i 55296),(.i 57343)])),.y 5 (.N 8 7),.a 9 5 8,.m 2 9]
 .ret)⟩
theorem r_s_SignOk {Te:TE} (c_s_l1In:C_s_l1In Te):C_s_SignOk (RF Te x_s_SignOk):=by
 intro n
 refine run0 ?_
 simp -implicitDefEqProofs (maxSteps:=1000000) only [x_s_SignOk,go_sem,signOk]
 repeat refine ⟨sc,?_⟩
 try exact sf
 refine C0 (c_s_l1In _ _ _) ?_
 cases g1:win n 0 1114111
 ·exact F0
 ·refine G0 ?_
  exact D0 (c_s_l1In _ _ _)
def x_i_SignOk:FnX:=⟨10,[.tmp 2],
  .q [.F 2]
 (.q [.m 3 0,.op 4 (.call 90 [0,0,0] [(.t 3),(.i 0),(.i 1114111)]),.m 5 4,.y 5 (.m 6 0),.y 5 (.op 7 (.call 90 [0,0,0] [(.t 6),(.i 55296),(.i 57343)])),.y 5 (.N 8 7),.a 9 5 8,.m 2 9]
 .ret)⟩
theorem r_i_SignOk {Te:TE} (c_i_within:C_i_within Te):C_i_SignOk (RF Te x_i_SignOk):=by
 intro n
 refine run0 ?_
 simp -implicitDefEqProofs (maxSteps:=1000000) only [x_i_SignOk,go_sem,signOk]
 repeat refine ⟨sc,?_⟩
 try exact sf
 refine C0 (c_i_within _ _ _) ?_
 cases g1:win n 0 1114111
 ·exact F0
 ·refine G0 ?_
  exact D0 (c_i_within _ _ _)
def x_s_PutSign:FnX:=⟨76,[.tmp 4],
  .q [.op 4 (.mv (.k (.one (.nils 1))))]
 (.q [.op 6 (.bslice 1 []),.m 7 0,.op 8 (.app 1 1 (.t 6) (.t 7)),.m 5 8]
 (.seq (.block 0 (.q [.m 10 1,.c 11 275 [10],.N 12 11,.m 9 12]
 (.cond 9 (.q [.m 13 5,.m 4 13]
 .ret) (.q [.m 15 1,.B 16 .leq 15 127,.m 14 16]
 (.cond 14 (.q [.m 17 5,.m 18 1,.op 19 (.conv (.int .u8) (.t 18)),.op 20 (.bslice 1 [(.t 19)]),.op 21 (.app 1 1 (.t 17) (.t 20)),.m 4 21]
 .ret) (.q [.m 23 1,.B 24 .leq 23 2047,.m 22 24]
 (.cond 22 (.q [.m 25 5,.m 26 1,.op 27 (.bin .shr (.t 26) (.k (.one (.pv (.int .u64 6))))),.op 28 (.bin .or (.i 192) (.t 27)),.op 29 (.conv (.int .u8) (.t 28)),.m 30 1,.B 31 .and 30 63,.op 32 (.bin .or (.i 128) (.t 31)),.op 33 (.conv (.int .u8) (.t 32)),.op 34 (.bslice 1 [(.t 29),(.t 33)]),.op 35 (.app 1 1 (.t 25) (.t 34)),.m 4 35]
 .ret) (.q [.m 37 1,.B 38 .leq 37 65535,.m 36 38]
 (.c 36 (.q [.m 39 5,.m 40 1,.op 41 (.bin .shr (.t 40) (.k (.one (.pv (.int .u64 12))))),.op 42 (.bin .or (.i 224) (.t 41)),.op 43 (.conv (.int .u8) (.t 42)),.m 44 1,.op 45 (.bin .shr (.t 44) (.k (.one (.pv (.int .u64 6))))),.B 46 .and 45 63,.op 47 (.bin .or (.i 128) (.t 46)),.op 48 (.conv (.int .u8) (.t 47)),.m 49 1,.B 50 .and 49 63,.op 51 (.bin .or (.i 128) (.t 50)),.op 52 (.conv (.int .u8) (.t 51)),.op 53 (.bslice 1 [(.t 43),(.t 48),(.t 52)]),.op 54 (.app 1 1 (.t 39) (.t 53)),.m 4 54]
 .ret))))))))))
 (.q [.m 55 5,.m 56 1,.op 57 (.bin .shr (.t 56) (.k (.one (.pv (.int .u64 18))))),.op 58 (.bin .or (.i 240) (.t 57)),.op 59 (.conv (.int .u8) (.t 58)),.m 60 1,.op 61 (.bin .shr (.t 60) (.k (.one (.pv (.int .u64 12))))),.B 62 .and 61 63,.op 63 (.bin .or (.i 128) (.t 62)),.op 64 (.conv (.int .u8) (.t 63)),.m 65 1,.op 66 (.bin .shr (.t 65) (.k (.one (.pv (.int .u64 6))))),.B 67 .and 66 63,.op 68 (.bin .or (.i 128) (.t 67)),.op 69 (.conv (.int .u8) (.t 68)),.m 70 1,.B 71 .and 70 63,.op 72 (.bin .or (.i 128) (.t 71)),.op 73 (.conv (.int .u8) (.t 72)),.op 74 (.bslice 1 [(.t 59),(.t 64),(.t 69),(.t 73)]),.op 75 (.app 1 1 (.t 55) (.t 74)),.m 4 75]
 .ret)))⟩
theorem r_s_PutSign {Te:TE} (c_s_SignOk:C_s_SignOk Te):C_s_PutSign (RF Te x_s_PutSign):=by
 intro b n hb
 cases hn:signOk n
 ·refine X0 x_s_PutSign.eq_1 ?_
  refine .of (c_s_SignOk _) ?_
  try simp -implicitDefEqProofs (maxSteps:=1000000) only [go_sem,putSign,hn,if_false]
  repeat refine ⟨sc,?_⟩
  try exact sf
  try rfl
 obtain ⟨h0,h1,_⟩:=signOk_in hn
 obtain ⟨m,rfl⟩:∃ m:Nat,n=m:=⟨n.toNat,by omega⟩
 have ep:putSign b (m:Int)=b++enc8 m:=by simp only [putSign,hn,if_true,Int.toNat_natCast]
 have d6:(m:Int).fdiv (2 ^ 6)=((m / 64:Nat):Int):=fdivN m 64
 have d12:(m:Int).fdiv (2 ^ 12)=((m / 4096:Nat):Int):=fdivN m 4096
 have d18:(m:Int).fdiv (2 ^ 18)=((m / 262144:Nat):Int):=fdivN m 262144
 have a0:=and63 m (by omega)
 have a6:=and63 (m / 64) (by omega)
 have a12:=and63 (m / 4096) (by omega)
 have o0:orK .i64 128 ((m % 64:Nat):Int)=((128 + m % 64:Nat):Int):=or_hd 128 6 2 rfl (by omega) (by omega)
 have o6:orK .i64 128 ((m / 64 % 64:Nat):Int)=((128 + m / 64 % 64:Nat):Int):=or_hd 128 6 2 rfl (by omega) (by omega)
 have o12:orK .i64 128 ((m / 4096 % 64:Nat):Int)=((128 + m / 4096 % 64:Nat):Int):=or_hd 128 6 2 rfl (by omega) (by omega)
 cases q:decide ((m:Int)≤127)
 ·have hq:¬ m≤127:=by simp only [decide_eq_false_iff_not] at q; omega
  cases q2:decide ((m:Int)≤2047)
  ·have hq2:¬ m≤2047:=by simp only [decide_eq_false_iff_not] at q2; omega
   cases q3:decide ((m:Int)≤65535)
   ·have hq3:¬ m≤65535:=by simp only [decide_eq_false_iff_not] at q3; omega
    have t:orK .i64 240 ((m / 262144:Nat):Int)=((240 + m / 262144:Nat):Int):=or_hd 240 3 30 rfl (by omega) (by omega)
    have ee:List.take (b.length + 4) (List.map uR b++[[uT (mkU ((240 + m / 262144:Nat):Int))],[uT (mkU ((128 + m / 4096 % 64:Nat):Int))],[uT (mkU ((128 + m / 64 % 64:Nat):Int))],[uT (mkU ((128 + m % 64:Nat):Int))]])=List.map uR (b++enc8 m):=by
     rw [List.take_of_length_le (by simp),mkU_nat,mkU_nat,mkU_nat,mkU_nat]
     simp only [enc8,if_neg hq,if_neg hq2,if_neg hq3,List.map_append,List.map_cons,List.map_nil]
    refine X0 x_s_PutSign.eq_1 ?_
    refine .of (c_s_SignOk _) ?_
    try simp -implicitDefEqProofs (maxSteps:=1000000) only [go_sem,hn,ep,q,q2,q3,show Nat.min 6 64=6 from rfl,show Nat.min 12 64=12 from rfl,show Nat.min 18 64=18 from rfl,d6,d12,d18,a0,a6,a12,o0,o6,o12,t,mkU_wrap,ee]
    repeat refine ⟨sc,?_⟩
    try exact sf
   ·have hq3:m≤65535:=by simp only [decide_eq_true_eq] at q3; omega
    have t:orK .i64 224 ((m / 4096:Nat):Int)=((224 + m / 4096:Nat):Int):=or_hd 224 4 14 rfl (by omega) (by omega)
    have ee:List.take (b.length + 3) (List.map uR b++[[uT (mkU ((224 + m / 4096:Nat):Int))],[uT (mkU ((128 + m / 64 % 64:Nat):Int))],[uT (mkU ((128 + m % 64:Nat):Int))]])=List.map uR (b++enc8 m):=by
     rw [List.take_of_length_le (by simp),mkU_nat,mkU_nat,mkU_nat]
     simp only [enc8,if_neg hq,if_neg hq2,if_pos hq3,List.map_append,List.map_cons,List.map_nil]
    refine X0 x_s_PutSign.eq_1 ?_
    refine .of (c_s_SignOk _) ?_
    try simp -implicitDefEqProofs (maxSteps:=1000000) only [go_sem,hn,ep,q,q2,q3,show Nat.min 6 64=6 from rfl,show Nat.min 12 64=12 from rfl,d6,d12,a0,a6,o0,o6,t,mkU_wrap,ee]
    repeat refine ⟨sc,?_⟩
    try exact sf
  ·have hq2:m≤2047:=by simp only [decide_eq_true_eq] at q2; omega
   have t:orK .i64 192 ((m / 64:Nat):Int)=((192 + m / 64:Nat):Int):=or_hd 192 6 3 rfl (by omega) (by omega)
   have ee:List.take (b.length + 2) (List.map uR b++[[uT (mkU ((192 + m / 64:Nat):Int))],[uT (mkU ((128 + m % 64:Nat):Int))]])=List.map uR (b++enc8 m):=by
    rw [List.take_of_length_le (by simp),mkU_nat,mkU_nat]
    simp only [enc8,if_neg hq,if_pos hq2,List.map_append,List.map_cons,List.map_nil]
   refine X0 x_s_PutSign.eq_1 ?_
   refine .of (c_s_SignOk _) ?_
   try simp -implicitDefEqProofs (maxSteps:=1000000) only [go_sem,hn,ep,q,q2,show Nat.min 6 64=6 from rfl,d6,a0,o0,t,mkU_wrap,ee]
   repeat refine ⟨sc,?_⟩
   try exact sf
 ·have hq:m≤127:=by simp only [decide_eq_true_eq] at q; omega
  have ee:List.take (b.length + 1) (List.map uR b++[[uT (mkU (m:Int))]])=List.map uR (b++enc8 m):=by
   rw [List.take_of_length_le (by simp),mkU_nat]
   simp only [enc8,if_pos hq,List.map_append,List.map_cons,List.map_nil]
  refine X0 x_s_PutSign.eq_1 ?_
  refine .of (c_s_SignOk _) ?_
  try simp -implicitDefEqProofs (maxSteps:=1000000) only [go_sem,hn,ep,q,mkU_wrap,ee]
  repeat refine ⟨sc,?_⟩
  try exact sf
def x_s_l13Lay:FnX:=⟨64,[],
  .q [.m 6 0,.op 7 (.nilc (.t 6)),.f 8 7 4,.L 9 3 8,.c 10 279 [9],.m 4 10]
 (.seq (.q [.i 5 0]
 (.block 0 (.loop [0,1,4,5] (.seq (.q [.m 11 5,.m 12 4,.n 13 12,.b 14 .lss 11 13]
 (.cond 14 .skip (.exit 0)))
 (.seq (.block 1 (.draw [.m 17 0,.op 18 (.nilc (.t 17)),.f 19 18 0,.m 20 1,.m 21 5,.c 22 193 [20,21],.m 23 1,.m 24 5,.m 25 4,.m 26 5,.x 27 13 25 26,.L 28 13 27,.c 29 194 [23,24,28],.op 30 (.call 192 [6,0,0] [(.t 19),(.t 22),(.t 29)])] [[],[0],[1],[],[],[3,4],[],[],[],[],[8,9],[10],[6,7,11,5],[2,5,12,12]]))
 (.reg [.m 15 5,.B 16 .add 15 1,.m 5 16]))))))
 (.norm [0,1,4] (.q [.m 31 0,.op 32 (.nilc (.t 31)),.f 33 32 0,.op 34 (.call 195 [6] [(.t 33)])]
 (.seq (.draw [.m 35 0,.op 36 (.nilc (.t 35)),.f 37 36 0,.m 38 1,.B 39 .rem 38 2,.m 40 1,.m 41 4,.n 42 41,.c 43 280 [40,42],.op 44 (.call 192 [6,0,0] [(.t 37),(.t 39),(.t 43)])] [[],[0],[1],[],[3],[],[],[6],[5,7],[2,4,8,8]])
 (.q [.m 45 0,.op 46 (.nilc (.t 45)),.f 47 46 0,.op 48 (.call 195 [6] [(.t 47)])]
 (.q [.m 49 0,.op 50 (.nilc (.t 49)),.f 51 50 0,.f 52 51 3,.l 53 52,.N 54 53]
 (.c 54 (.q [.m 55 0,.m 56 1,.op 57 (.nilc (.t 55)),.f 58 57 7,.s 100001 1 58 56]
 (.reg [.m 59 0,.m 60 4,.n 61 60,.op 62 (.nilc (.t 59)),.f 63 62 8,.s 100002 1 63 61])))))))))⟩
theorem r_s_l13Lay {Te:TE} (c_s_RecsOf:C_s_RecsOf Te) (c_s_l13At:C_s_l13At Te) (c_s_PutRec:C_s_PutRec Te) (c_s_l10Write:C_s_l10Write Te) (c_s_l10Flush:C_s_l10Flush Te) (c_s_HeadOf:C_s_HeadOf Te):C_s_l13Lay (RF Te x_s_l13Lay):=by
 intro s gen hd ht
 have hL:=ht.len (by decide)
 obtain ⟨hr1,hr2⟩:=recsOf_le ht
 obtain ⟨D0,T0,G0,P0⟩:=s
 simp only at hd ht hL hr1 hr2
 obtain ⟨E0,hE⟩:∃ E0,E0=D0:=⟨_,rfl⟩
 generalize hL0:(StoreV.mk D0 T0 G0 P0).lay gen=L0
 rw [← hE] at hL0
 refine X0 x_s_l13Lay.eq_1 ?_
 refine C0 (c_s_RecsOf T0 hL) ?_
 generalize eR:recsOf T0=R at hr1 hr2
 refine loop_of (σ:=Bool×Nat×DevV) (fun x=>cond x.1 (⟨[(0,.bp 0 0),(1,.one (.pv (.int .i64 gen))),(4,.one (.rf 66 0 [] 13 0 R.length)),(5,.one (.pv (.int .i64 x.2.1)))],[(0,[.rf 67 0 [] 1 0 x.2.2.Secs.length,.rf 67 1 [] 2 0 x.2.2.Cache.length,.pv (.int .i64 x.2.2.Fuse),.pv (.bool x.2.2.Down),.rf 0 4 [] 7 0 T0.Rows.length,.pv (.int .i64 T0.Phase),.rf 0 6 [] 3 0 T0.Marks.length,.pv (.int .i64 G0),.pv (.int .i64 P0)])],[(0,[.no (),.no (),iT D0.Fuse,bT D0.Down,slT true 7 (RowV.enc true) T0.Rows,iT T0.Phase,slT true 3 MarkV.row T0.Marks,iT G0,iT P0]),(1,[iT gen]),(66,[slT true 13 (RecV.enc true) R]),(67,x.2.2.enc true)]⟩) (⟨[(0,.bp 0 0),(1,.one (.pv (.int .i64 gen))),(4,.one (.rf 66 0 [] 13 0 R.length)),(5,.one (.pv (.int .i64 x.2.1)))],[(0,[.rf 0 0 [] 1 0 x.2.2.Secs.length,.rf 0 1 [] 2 0 x.2.2.Cache.length,.pv (.int .i64 x.2.2.Fuse),.pv (.bool x.2.2.Down),.rf 0 4 [] 7 0 T0.Rows.length,.pv (.int .i64 T0.Phase),.rf 0 6 [] 3 0 T0.Marks.length,.pv (.int .i64 G0),.pv (.int .i64 P0)])],[(0,(StoreV.mk D0 T0 G0 P0).enc true),(1,[iT gen]),(66,[slT true 13 (RecV.enc true) R])]⟩)) (fun x=>x.2.1≤R.length∧x.2.2=layN gen R E0 x.2.1∧x.2.2.ok=true∧(x.1=false→x.2.2=D0)) (fun x=>R.length - x.2.1) (false,0,D0) ?_ ⟨Nat.zero_le _,hE.symm,hd,fun _=>rfl⟩ ?_
 ·simp -implicitDefEqProofs (maxSteps:=1000000) only [go_sem]
  try rfl
 ·rintro ⟨b,i,D⟩ ⟨hi,hD,hk,hb⟩
  simp only at hi hD hk hb
  cases b
  all_goals try (have hb:=hb rfl; subst hb)
  all_goals
   have hcl:=(DevV.ok_iff D).1 hk
   cases q:decide ((i:Int) < (R.length:Int))
   ·have k0:i=R.length:=by simp only [decide_eq_false_iff_not] at q; omega
    have e:((D.flush).write (gen.tmod 2) (headOf gen R.length)).flush=layDev gen R E0:=by rw [hD,k0]; rfl
    have hh:=headOf_len gen R.length
    have f1:=flush_ok hk
    have f2:=write_ok f1 (gen.tmod 2) (headOf gen R.length)
    have hcl1:=(DevV.ok_iff _).1 f1
    have hcl2:=(DevV.ok_iff _).1 f2
    refine G1 q ?_
    refine C0 (c_s_l10Flush D (by omega) (DevV.ok_idx hk)) ?_
    refine C0 (c_s_HeadOf _ _) ?_
    refine .of (c_s_l10Write D.flush _ _ (by omega) (by omega)) ?_
    try simp -implicitDefEqProofs (maxSteps:=1000000) only [go_sem,take_all]
    repeat refine ⟨sc,?_⟩
    try exact sf
    refine .of (c_s_l10Flush _ (by omega) (DevV.ok_idx f2)) ?_
    try simp -implicitDefEqProofs (maxSteps:=1000000) only [go_sem,take_all]
    repeat refine ⟨sc,?_⟩
    try exact sf
    rw [e]
    cases g:(layDev gen R E0).Down
    ·have e2:L0=⟨layDev gen R E0,T0,gen,R.length⟩:=by rw [← hL0,← eR]; exact lay_up (by rw [eR]; exact g)
     try simp -implicitDefEqProofs (maxSteps:=1000000) only [go_sem,g,e2,take_all,StoreV.enc]
     repeat refine ⟨sc,?_⟩
     try exact sf
     try rfl
    ·have e2:L0=⟨layDev gen R E0,T0,G0,P0⟩:=by rw [← hL0,← eR]; exact lay_down (by rw [eR]; exact g)
     try simp -implicitDefEqProofs (maxSteps:=1000000) only [go_sem,g,e2,take_all,StoreV.enc]
     repeat refine ⟨sc,?_⟩
     try exact sf
     try rfl
   ·have k1:i < R.length:=by simp only [decide_eq_true_eq] at q; omega
    have hp:=putRec_len gen i R[i]
    have hin:=hr2 _ (List.getElem_mem k1)
    have es:=layN_step gen E0 k1
    rw [← hD] at es
    have eg:(R.map (RecV.enc true)).getD i []=R[i].enc true:=by rw [List.getD_eq_getElem?_getD,List.getElem?_map,List.getElem?_eq_getElem k1]; rfl
    refine G2 q (List.getElem?_eq_getElem k1) ?_
    refine C2 (c_s_l13At _ _) eg (List.getElem?_eq_getElem k1) ?_
    refine C0 (c_s_PutRec _ _ R[i] hin) ?_
    refine .of (c_s_l10Write D _ _ (by omega) (by omega)) ?_
    try simp -implicitDefEqProofs (maxSteps:=1000000) only [go_sem,take_all]
    repeat refine ⟨sc,?_⟩
    try exact sf
    refine ⟨(true,i + 1,D.write (secOf gen i) (putRec gen i R[i])),?_,⟨k1,es,write_ok hk _ _,fun h=>by cases h⟩,by simp only; omega⟩
    rw [IntWalk.i64_in _ (by omega)]
    rfl
def x_i_Format:FnX:=⟨10,[.cell 0 (some 9)],
  .q [.op 0 (.alloc [.nils 1,.nils 2,.i 0,.F,.nils 7,.i 0,.nils 3,.i 0,.i 0])]
 (.q [.op 2 (.build [.nils 7,.i 0,.nils 3] []),.c 3 207 [2],.m 1 3]
 (.q [.op 4 (.call 209 [0] [(.i 62)]),.m 5 1,.op 6 (.call 208 [0,0,0] [(.t 4),(.i 1),(.t 5)]),.m 7 1,.n 8 7,.op 9 (.build [.nils 1,.nils 2,.i 0,.F,.nils 7,.i 0,.nils 3,.i 0,.i 0] [(0,4,(.t 6)),(7,1,(.i 1)),(8,1,(.t 8))]),.s 100001 9 0 9]
 .ret))⟩
theorem r_i_Format {Te:TE} (c_i_RecsOf:C_i_RecsOf Te) (c_i_DevNew:C_i_DevNew Te) (c_i_laid:C_i_laid Te):C_i_Format (RF Te x_i_Format):=by
 have hr:([recPhase 0]:List RecV).length≤2 ^ 30∧∀ r∈([recPhase 0]:List RecV),r.In (2 ^ 48):=recsOf_le (TabV.zero_in _)
 have t1:=c_i_RecsOf TabV.zero ((TabV.zero_in (2 ^ 20)).len (by decide))
 rw [recsOf_zero] at t1
 have e:=fmt_eq
 have h1:(([recPhase 0]:List RecV).length:Int)=1:=rfl
 generalize [recPhase 0]=R at hr t1 e h1
 refine X0 x_i_Format.eq_1 ?_
 refine C0 (t1) ?_
 refine C0 (c_i_DevNew 62) ?_
 refine .of (c_i_laid (devNew 62) 1 R devNew_ok hr) ?_
 try simp -implicitDefEqProofs (maxSteps:=1000000) only [go_sem,take_all,e,h1,StoreV.enc]
 repeat refine ⟨sc,?_⟩
 try exact sf
 try rfl
def x_s_Format:FnX:=⟨7,[.cell 0 (some 9)],
  .q [.op 0 (.alloc [.nils 1,.nils 2,.i 0,.F,.nils 7,.i 0,.nils 3,.i 0,.i 0])]
 (.q [.op 2 (.call 210 [0] [(.i 62)]),.op 3 (.build [.nils 7,.i 0,.nils 3] []),.op 4 (.build [.nils 1,.nils 2,.i 0,.F,.nils 7,.i 0,.nils 3,.i 0,.i 0] [(0,4,(.t 2)),(4,3,(.t 3))]),.op 1 (.alloc [.nils 1,.nils 2,.i 0,.F,.nils 7,.i 0,.nils 3,.i 0,.i 0]),.s 100001 9 1 4]
 (.q [.op 5 (.call 191 [11,0] [(.t 1),(.i 1)])]
 (.q [.L 6 9 1,.s 100002 9 0 6]
 .ret)))⟩
theorem r_s_Format {Te:TE} (c_s_DevNew:C_s_DevNew Te) (c_s_l13Lay:C_s_l13Lay Te):C_s_Format (RF Te x_s_Format):=by
 refine X0 x_s_Format.eq_1 ?_
 refine C0 (c_s_DevNew 62) ?_
 exact D0 (c_s_l13Lay (StoreV.mk (devNew 62) TabV.zero 0 0) 1 devNew_ok (TabV.zero_in _))
def x_l_szWorld:FnX:=⟨42,[.tmp 4],
  .q [.v 2 0,.i 4 0]
 (.q [.f 5 2 0,.L 6 4 5,.m 7 1,.c 8 123 [6,7],.m 1 8]
 (.seq (.q [.m 9 1,.B 10 .lss 9 0]
 (.c 10 (.q [.i 4 (-1)]
 .ret)))
 (.q [.f 11 2 4,.l 12 11,.m 13 1,.c 14 124 [12,13],.m 1 14]
 (.seq (.q [.m 15 1,.B 16 .lss 15 0]
 (.c 16 (.q [.i 4 (-1)]
 .ret)))
 (.q [.f 17 2 5,.l 18 17,.m 19 1,.c 20 125 [18,19],.m 1 20]
 (.seq (.q [.m 21 1,.B 22 .lss 21 0]
 (.c 22 (.q [.i 4 (-1)]
 .ret)))
 (.q [.f 23 2 6,.l 24 23,.m 25 1,.c 26 126 [24,25],.m 1 26]
 (.seq (.q [.m 27 1,.B 28 .lss 27 0]
 (.c 28 (.q [.i 4 (-1)]
 .ret)))
 (.q [.f 29 2 7,.l 30 29,.m 31 1,.c 32 127 [30,31],.m 1 32]
 (.seq (.q [.m 33 1,.B 34 .lss 33 0]
 (.c 34 (.q [.i 4 (-1)]
 .ret)))
 (.q [.f 35 2 8,.l 36 35,.m 37 1,.c 38 128 [36,37],.m 1 38]
 (.seq (.q [.m 39 1,.B 40 .lss 39 0]
 (.c 40 (.q [.i 4 (-1)]
 .ret)))
 (.q [.m 41 1,.m 4 41]
 .ret)))))))))))))⟩
theorem r_l_szWorld {Te:TE} (c_l_szLead:C_l_szLead Te) (c_l_szNodeS:C_l_szNodeS Te) (c_l_szClientS:C_l_szClientS Te) (c_l_szMsgS:C_l_szMsgS Te) (c_l_szActS:C_l_szActS Te) (c_l_szActSS:C_l_szActSS Te):C_l_szWorld (RF Te x_l_szWorld):=by
 intro x k hx hk
 refine run0 ?_
 obtain ⟨h0,h1,h2,h3,h4,h5⟩:=hx
 simp -implicitDefEqProofs (maxSteps:=1000000) (disch:=omega) only [x_l_szWorld,go_sem,IntWalk.i64_in]
 refine .of (c_l_szLead _ _ h0 hk) ?_
 simp -implicitDefEqProofs (maxSteps:=1000000) (disch:=omega) only [go_sem,IntWalk.i64_in]
 refine ⟨fun q0=>?_,fun q0=>?_⟩
 ·simp only [decide_eq_true_eq] at q0
  simp only [szWorld,szAll,if_pos q0]
 ·simp only [decide_eq_false_iff_not] at q0
  have k1:0≤(szLead x.L k)∧(szLead x.L k)≤2 ^ 48:=⟨by omega,Int.le_trans ((szLead_sane _) _ hk.1) hk.2⟩
  refine .of (c_l_szNodeS _ _ k1 h1.1 h1.2) ?_
  simp -implicitDefEqProofs (maxSteps:=1000000) (disch:=omega) only [go_sem,IntWalk.i64_in]
  refine ⟨fun q1=>?_,fun q1=>?_⟩
  ·simp only [decide_eq_true_eq] at q1
   simp only [szWorld,szAll,if_neg q0,if_pos q1]
  ·simp only [decide_eq_false_iff_not] at q1
   have k2:0≤(szSl szNode x.Nodes (szLead x.L k))∧(szSl szNode x.Nodes (szLead x.L k))≤2 ^ 48:=⟨by omega,Int.le_trans ((Sane.sl szNode_sane _) _ k1.1) k1.2⟩
   refine .of (c_l_szClientS _ _ k2 h2.1 h2.2) ?_
   simp -implicitDefEqProofs (maxSteps:=1000000) (disch:=omega) only [go_sem,IntWalk.i64_in]
   refine ⟨fun q2=>?_,fun q2=>?_⟩
   ·simp only [decide_eq_true_eq] at q2
    simp only [szWorld,szAll,if_neg q0,if_neg q1,if_pos q2]
   ·simp only [decide_eq_false_iff_not] at q2
    have k3:0≤(szSl szClient x.Clients (szSl szNode x.Nodes (szLead x.L k)))∧(szSl szClient x.Clients (szSl szNode x.Nodes (szLead x.L k)))≤2 ^ 48:=⟨by omega,Int.le_trans ((Sane.sl szClient_sane _) _ k2.1) k2.2⟩
    refine .of (c_l_szMsgS _ _ k3 h3.1 h3.2) ?_
    simp -implicitDefEqProofs (maxSteps:=1000000) (disch:=omega) only [go_sem,IntWalk.i64_in]
    refine ⟨fun q3=>?_,fun q3=>?_⟩
    ·simp only [decide_eq_true_eq] at q3
     simp only [szWorld,szAll,if_neg q0,if_neg q1,if_neg q2,if_pos q3]
    ·simp only [decide_eq_false_iff_not] at q3
     have k4:0≤(szSl szMsg x.Net (szSl szClient x.Clients (szSl szNode x.Nodes (szLead x.L k))))∧(szSl szMsg x.Net (szSl szClient x.Clients (szSl szNode x.Nodes (szLead x.L k))))≤2 ^ 48:=⟨by omega,Int.le_trans ((Sane.sl szMsg_sane _) _ k3.1) k3.2⟩
     refine .of (c_l_szActS _ _ k4 h4.1 h4.2) ?_
     simp -implicitDefEqProofs (maxSteps:=1000000) (disch:=omega) only [go_sem,IntWalk.i64_in]
     refine ⟨fun q4=>?_,fun q4=>?_⟩
     ·simp only [decide_eq_true_eq] at q4
      simp only [szWorld,szAll,if_neg q0,if_neg q1,if_neg q2,if_neg q3,if_pos q4]
     ·simp only [decide_eq_false_iff_not] at q4
      have k5:0≤(szSl szAct x.Log (szSl szMsg x.Net (szSl szClient x.Clients (szSl szNode x.Nodes (szLead x.L k)))))∧(szSl szAct x.Log (szSl szMsg x.Net (szSl szClient x.Clients (szSl szNode x.Nodes (szLead x.L k)))))≤2 ^ 48:=⟨by omega,Int.le_trans ((Sane.sl szAct_sane _) _ k4.1) k4.2⟩
      refine .of (c_l_szActSS _ _ k5 h5.1 h5.2) ?_
      simp -implicitDefEqProofs (maxSteps:=1000000) (disch:=omega) only [go_sem,IntWalk.i64_in]
      refine ⟨fun q5=>?_,fun q5=>?_⟩
      ·simp only [decide_eq_true_eq] at q5
       simp only [szWorld,szAll,if_neg q0,if_neg q1,if_neg q2,if_neg q3,if_neg q4,if_pos q5]
      ·simp only [decide_eq_false_iff_not] at q5
       have k6:0≤(szSl (szSl szAct) x.Maybe (szSl szAct x.Log (szSl szMsg x.Net (szSl szClient x.Clients (szSl szNode x.Nodes (szLead x.L k))))))∧(szSl (szSl szAct) x.Maybe (szSl szAct x.Log (szSl szMsg x.Net (szSl szClient x.Clients (szSl szNode x.Nodes (szLead x.L k))))))≤2 ^ 48:=⟨by omega,Int.le_trans ((Sane.sl (Sane.sl szAct_sane) _) _ k5.1) k5.2⟩
       simp only [szWorld,szAll,if_neg q0,if_neg q1,if_neg q2,if_neg q3,if_neg q4,if_neg q5]
def x_l_toWorld:FnX:=⟨29,[.cell 2 (some 9)],
  .q [.v 1 0,.op 2 (.alloc [.i 0,.nils 1,.nils 1,.nils 1,.nils 10,.nils 12,.nils 8,.nils 6,.nils 1])]
 (.q [.op 3 (.alloc [.i 0,.nils 1,.nils 1,.nils 1,.nils 10,.nils 12,.nils 8,.nils 6,.nils 1])]
 (.q [.f 4 1 0,.L 5 4 4,.c 6 129 [5],.f 7 3 0,.s 100001 4 7 6]
 (.q [.f 8 1 4,.l 9 8,.c 10 130 [9],.f 11 3 4,.s 100002 1 11 10]
 (.q [.f 12 1 5,.l 13 12,.c 14 131 [13],.f 15 3 5,.s 100003 1 15 14]
 (.q [.f 16 1 6,.l 17 16,.c 18 132 [17],.f 19 3 6,.s 100004 1 19 18]
 (.q [.f 20 1 7,.l 21 20,.c 22 133 [21],.f 23 3 7,.s 100005 1 23 22]
 (.q [.f 24 1 8,.l 25 24,.c 26 134 [25],.f 27 3 8,.s 100006 1 27 26]
 (.q [.L 28 9 3,.s 100007 9 2 28]
 .ret))))))))⟩
theorem r_l_toWorld {Te:TE} (c_l_toLead:C_l_toLead Te) (c_l_toNodeS:C_l_toNodeS Te) (c_l_toClientS:C_l_toClientS Te) (c_l_toMsgS:C_l_toMsgS Te) (c_l_toActS:C_l_toActS Te) (c_l_toActSS:C_l_toActSS Te):C_l_toWorld (RF Te x_l_toWorld):=by
 intro x hx
 refine run0 ?_
 obtain ⟨h0,h1,h2,h3,h4,h5⟩:=hx
 simp -implicitDefEqProofs (maxSteps:=1000000) only [x_l_toWorld,go_sem]
 refine C0 (c_l_toLead _ h0) ?_
 refine C0 (c_l_toNodeS _ h1) ?_
 refine C0 (c_l_toClientS _ h2) ?_
 refine C0 (c_l_toMsgS _ (Nat.le_trans h3 (by decide))) ?_
 refine C0 (c_l_toActS _ (Nat.le_trans h4 (by decide))) ?_
 exact D0 (c_l_toActSS _ h5)
def x_i_copyCell:FnX:=⟨10,[.cell 2 (some 2)],
  .q [.v 1 0,.op 2 (.alloc [.i 0,.nils 1])]
 (.seq (.draw [.f 3 1 0,.l 4 3,.f 5 1 1,.l 6 5,.op 7 (.bslice 1 [(.t 6)]),.c 8 100 [7],.op 9 (.build [.i 0,.nils 1] [(0,1,(.t 4)),(1,1,(.t 8))]),.s 100001 2 2 9] [[],[0],[],[2],[3],[4],[1,5],[6,5,0,1,2,3,4,5,6]])
 .ret)⟩
theorem r_i_copyCell {Te:TE} (c_i_joined:C_i_joined Te):C_i_copyCell (RF Te x_i_copyCell):=by
 intro c h
 have h0:c.B.length≤2 ^ 21:=h
 refine X0 x_i_copyCell.eq_1 ?_
 refine .of (c_i_joined [c.B] (by rw [flat1]; omega) (by show 1≤2 ^ 31; decide)) ?_
 try simp -implicitDefEqProofs (maxSteps:=1000000) only [go_sem,flat1]
 repeat refine ⟨sc,?_⟩
 try exact sf
def x_s_l8Copy:FnX:=⟨10,[.cell 2 (some 2)],
  .q [.v 1 0,.op 2 (.alloc [.i 0,.nils 1])]
 (.seq (.draw [.f 3 1 0,.l 4 3,.op 5 (.bslice 1 []),.f 6 1 1,.l 7 6,.op 8 (.app 1 1 (.t 5) (.t 7)),.op 9 (.build [.i 0,.nils 1] [(0,1,(.t 4)),(1,1,(.t 8))]),.s 100001 2 2 9] [[],[0],[],[],[3],[2,4],[1,5],[6,5,0,1,2,3,4,5,6]])
 .ret)⟩
theorem r_s_l8Copy {Te:TE}:C_s_l8Copy (RF Te x_s_l8Copy):=by
 intro c h
 refine run0 ?_
 have h0:c.B.length≤2 ^ 21:=h
 simp -implicitDefEqProofs (maxSteps:=1000000) only [x_s_l8Copy,go_sem]
 repeat refine ⟨sc,?_⟩
 try exact sf
def x_i_copyRow:FnX:=⟨12,[.cell 2 (some 7)],
  .q [.v 1 0,.op 2 (.alloc [.e,.i 0,.nils 1,.i 0,.nils 1,.i 0,.F])]
 (.seq (.draw [.f 3 1 1,.L 4 2 3,.c 5 304 [4],.f 6 1 3,.L 7 2 6,.c 8 304 [7],.f 9 1 1,.s 100001 2 9 5,.f 10 1 3,.s 100002 2 10 8] [[],[0],[1],[],[3],[4,2],[0,1,2,3,4],[6,2,5,0,1,2,3,4],[0,1,2,3,4,5,6,7],[8,5,7,0,1,2,3,4,5,6,7]])
 (.q [.L 11 7 1,.s 100003 7 2 11]
 .ret))⟩
theorem r_i_copyRow {Te:TE} (c_i_copyCell:C_i_copyCell Te):C_i_copyRow (RF Te x_i_copyRow):=by
 intro r h
 refine X0 x_i_copyRow.eq_1 ?_
 refine C0 (c_i_copyCell r.Old h.1) ?_
 exact D0 (c_i_copyCell r.New h.2)
def x_s_l9Copy:FnX:=⟨16,[.cell 2 (some 7)],
  .q [.v 1 0,.op 2 (.alloc [.e,.i 0,.nils 1,.i 0,.nils 1,.i 0,.F])]
 (.seq (.draw [.f 3 1 0,.l 4 3,.f 5 1 1,.L 6 2 5,.c 7 338 [6],.f 8 1 3,.L 9 2 8,.c 10 338 [9],.f 11 1 5,.l 12 11,.f 13 1 6,.l 14 13,.op 15 (.build [.e,.i 0,.nils 1,.i 0,.nils 1,.i 0,.F] [(0,1,(.t 4)),(1,2,(.t 7)),(3,2,(.t 10)),(5,1,(.t 12)),(6,1,(.t 14))]),.s 100001 7 2 15] [[],[0],[],[2],[3],[],[5],[6,4],[],[8],[],[10],[1,4,7,9,11],[12,7,0,1,2,3,4,5,6,7,8,9,10,11,12]])
 .ret)⟩
theorem r_s_l9Copy {Te:TE} (c_s_l8Copy:C_s_l8Copy Te):C_s_l9Copy (RF Te x_s_l9Copy):=by
 intro r h
 refine X0 x_s_l9Copy.eq_1 ?_
 refine C0 (c_s_l8Copy r.Old h.1) ?_
 exact D0 (c_s_l8Copy r.New h.2)
def x_i_flag:FnX:=⟨4,[.tmp 2],
  .q [.op 2 (.mv (.k (.one (.pv (.int .u8 0)))))]
 (.seq (.q [.m 3 0]
 (.c 3 (.q [.op 2 (.mv (.k (.one (.pv (.int .u8 1)))))]
 .ret)))
 (.q [.op 2 (.mv (.k (.one (.pv (.int .u8 0)))))]
 .ret))⟩
theorem r_i_flag {Te:TE}:C_i_flag (RF Te x_i_flag):=by
 intro b
 cases b
 ·refine X0 x_i_flag.eq_1 ?_
  try rfl
 ·refine X0 x_i_flag.eq_1 ?_
  try rfl
def x_s_l11Bit:FnX:=⟨4,[.tmp 2],
  .q [.op 2 (.mv (.k (.one (.pv (.int .u8 0)))))]
 (.seq (.q [.m 3 0]
 (.c 3 (.q [.op 2 (.mv (.k (.one (.pv (.int .u8 1)))))]
 .ret)))
 (.q [.op 2 (.mv (.k (.one (.pv (.int .u8 0)))))]
 .ret))⟩
theorem r_s_l11Bit {Te:TE}:C_s_l11Bit (RF Te x_s_l11Bit):=by
 intro b
 cases b
 ·refine X0 x_s_l11Bit.eq_1 ?_
  try rfl
 ·refine X0 x_s_l11Bit.eq_1 ?_
  try rfl
def x_i_sameRow:FnX:=⟨38,[.tmp 4],
  .q [.v 2 0,.v 3 1,.F 4]
 (.q [.f 5 2 0,.l 6 5,.f 7 3 0,.l 8 7,.b 9 .eql 6 8,.m 10 9,.y 10 (.f 11 2 1),.y 10 (.L 12 2 11),.y 10 (.f 13 3 1),.y 10 (.L 14 2 13),.y 10 (.c 15 173 [12,14]),.a 16 10 15,.m 17 16,.y 17 (.f 18 2 3),.y 17 (.L 19 2 18),.y 17 (.f 20 3 3),.y 17 (.L 21 2 20),.y 17 (.c 22 173 [19,21]),.a 23 17 22,.m 24 23,.y 24 (.f 25 2 5),.y 24 (.l 26 25),.y 24 (.f 27 3 5),.y 24 (.l 28 27),.y 24 (.b 29 .eql 26 28),.a 30 24 29,.m 31 30,.y 31 (.f 32 2 6),.y 31 (.l 33 32),.y 31 (.f 34 3 6),.y 31 (.l 35 34),.y 31 (.op 36 (.beq false (.t 33) (.t 35))),.a 37 31 36,.m 4 37]
 .ret)⟩
theorem r_i_sameRow {Te:TE} (c_i_sameCell:C_i_sameCell Te):C_i_sameRow (RF Te x_i_sameRow):=by
 intro a c
 refine run0 ?_
 simp -implicitDefEqProofs (maxSteps:=1000000) only [x_i_sameRow,go_sem,bytes_beq]
 repeat refine ⟨sc,?_⟩
 try exact sf
 cases g1:decide (a.Key=c.Key)
 ·try simp -implicitDefEqProofs (maxSteps:=1000000) only [go_sem,g1,rowSame]
  repeat refine ⟨sc,?_⟩
  try exact sf
 refine G1 g1 ?_
 have t1:=c_i_sameCell a.Old c.Old
 have t2:=c_i_sameCell a.New c.New
 rw [← cellSame] at t1 t2
 refine .of t1 ?_
 cases g2:cellSame a.Old c.Old
 ·try simp -implicitDefEqProofs (maxSteps:=1000000) only [go_sem,g1,g2,rowSame]
  repeat refine ⟨sc,?_⟩
  try exact sf
 refine G0 ?_
 refine .of t2 ?_
 cases g3:cellSame a.New c.New
 ·try simp -implicitDefEqProofs (maxSteps:=1000000) only [go_sem,g1,g2,g3,rowSame]
  repeat refine ⟨sc,?_⟩
  try exact sf
 refine G0 ?_
 cases g4:(a.Has==c.Has)
 ·try simp -implicitDefEqProofs (maxSteps:=1000000) only [go_sem,g1,g2,g3,g4,rowSame]
  repeat refine ⟨sc,?_⟩
  try exact sf
 have e9:∀ c:Bool,(c != false)=c:=fun c=>by cases c <;> rfl
 try simp -implicitDefEqProofs (maxSteps:=1000000) only [go_sem,g1,g2,g3,g4,rowSame,e9]
 repeat refine ⟨sc,?_⟩
 try exact sf
def x_s_l11NoRow:FnX:=⟨26,[.tmp 2],
  .q [.v 1 0,.F 2]
 (.q [.f 3 1 0,.l 4 3,.op 5 (.bin .eql (.t 4) (.k (.one (.pv (.string ⟨#[]⟩))))),.m 6 5,.y 6 (.f 7 1 1),.y 6 (.L 8 2 7),.y 6 (.c 9 339 [8]),.a 10 6 9,.m 11 10,.y 11 (.f 12 1 3),.y 11 (.L 13 2 12),.y 11 (.c 14 339 [13]),.a 15 11 14,.m 16 15,.y 16 (.f 17 1 5),.y 16 (.l 18 17),.y 16 (.B 19 .eql 18 0),.a 20 16 19,.m 21 20,.y 21 (.f 22 1 6),.y 21 (.l 23 22),.y 21 (.N 24 23),.a 25 21 24,.m 2 25]
 .ret)⟩
theorem r_s_l11NoRow {Te:TE} (c_s_l9None:C_s_l9None Te):C_s_l11NoRow (RF Te x_s_l11NoRow):=by
 intro r
 refine run0 ?_
 simp -implicitDefEqProofs (maxSteps:=1000000) only [x_s_l11NoRow,go_sem,bytes_beq]
 repeat refine ⟨sc,?_⟩
 try exact sf
 cases g1:decide (r.Key=⟨#[]⟩)
 ·try simp -implicitDefEqProofs (maxSteps:=1000000) only [go_sem,g1,RowV.no]
  repeat refine ⟨sc,?_⟩
  try exact sf
 refine G1 g1 ?_
 refine C0 (c_s_l9None r.Old) ?_
 cases g2:r.Old.no
 ·try simp -implicitDefEqProofs (maxSteps:=1000000) only [go_sem,g1,g2,RowV.no]
  repeat refine ⟨sc,?_⟩
  try exact sf
 refine G0 ?_
 refine C0 (c_s_l9None r.New) ?_
 cases g3:r.New.no
 ·try simp -implicitDefEqProofs (maxSteps:=1000000) only [go_sem,g1,g2,g3,RowV.no]
  repeat refine ⟨sc,?_⟩
  try exact sf
 refine G0 ?_
 cases g4:(r.Has==0)
 ·try simp -implicitDefEqProofs (maxSteps:=1000000) only [go_sem,g1,g2,g3,g4,RowV.no]
  repeat refine ⟨sc,?_⟩
  try exact sf
 try simp -implicitDefEqProofs (maxSteps:=1000000) only [go_sem,g1,g2,g3,g4,RowV.no]
 repeat refine ⟨sc,?_⟩
 try exact sf
def x_l_szRowS:FnX:=⟨27,[.tmp 4],
  .q [.i 4 0]
 (.q [.m 6 1,.m 7 0,.n 8 7,.b 9 .sub 6 8,.m 1 9]
 (.seq (.q [.m 10 1,.B 11 .lss 10 0]
 (.c 11 (.q [.i 4 (-1)]
 .ret)))
 (.seq (.q [.i 5 0]
 (.block 0 (.loop [0,1,5] (.seq (.q [.m 12 5,.m 13 0,.n 14 13,.b 15 .lss 12 14]
 (.cond 15 .skip (.exit 0)))
 (.seq (.block 1 (.q [.m 18 0,.m 19 5,.x 20 7 18 19,.L 21 7 20,.m 22 1,.c 23 375 [21,22],.m 1 23]
 (.q [.m 24 1,.B 25 .lss 24 0]
 (.c 25 (.q [.i 4 (-1)]
 .ret)))))
 (.reg [.m 16 5,.B 17 .add 16 1,.m 5 17]))))))
 (.norm [1] (.q [.m 26 1,.m 4 26]
 .ret)))))⟩
theorem r_l_szRowS {Te:TE} (c_l_szRow:C_l_szRow Te):C_l_szRowS (RF Te x_l_szRowS):=by
 intro l k hk hl hs
 refine run0 ?_
 simp -implicitDefEqProofs (maxSteps:=1000000) (disch:=omega) only [x_l_szRowS,go_sem,IntWalk.i64_in]
 refine ⟨fun h=>?_,fun h=>?_⟩
 ·simp only [decide_eq_true_eq] at h
  simp only [szSl,szAll,if_pos h]
 ·simp only [decide_eq_false_iff_not] at h
  refine loop_of (σ:=Nat×Int) (fun x=>⟨[(0,.one (.ro 7 (l.map (RowV.enc false)))),(1,.one (.pv (.int .i64 x.2))),(5,.one (.pv (.int .i64 x.1)))],[],[(0,[slT false 7 (RowV.enc false) l]),(1,[iT k])]⟩) (fun x=>x.1≤l.length∧0≤x.2∧x.2≤k∧szSl szRow l k=szAll ((l.drop x.1).map szRow) x.2) (fun x=>l.length - x.1) (0,k - l.length) ?_ ⟨Nat.zero_le _,by omega,by omega,by simp only [szSl,szAll,if_neg h,List.drop_zero]⟩ ?_
  ·simp -implicitDefEqProofs (maxSteps:=1000000) only [go_sem]; rfl
  ·rintro ⟨i,c⟩ ⟨hi,h0,h1,he⟩
   simp only at hi h0 h1 he
   simp -implicitDefEqProofs (maxSteps:=1000000) only [go_sem]
   refine ⟨fun h=>?_,fun h=>?_⟩
   ·have hi':i < l.length:=by simp only [decide_eq_true_eq] at h; omega
    have hsz:=hs l[i] (List.getElem_mem hi')
    have hsn:szRow l[i] c≤c:=szRow_sane l[i] c h0
    rw [List.drop_eq_getElem_cons hi'] at he
    simp -implicitDefEqProofs (maxSteps:=1000000) (disch:=omega) only [go_sem,List.getElem?_eq_getElem hi',IntWalk.i64_in]
    refine .of (c_l_szRow _ _ hsz ⟨h0,by omega⟩) ?_
    simp -implicitDefEqProofs (maxSteps:=1000000) only [go_sem]
    refine ⟨fun h2=>?_,fun h2=>?_⟩
    ·simp only [decide_eq_true_eq] at h2
     rw [he]
     simp only [List.map_cons,szAll,if_pos h2]
    ·simp only [decide_eq_false_iff_not] at h2
     refine ⟨(i + 1,szRow l[i] c),by rw [IntWalk.i64_in _ (by omega)]; rfl,⟨hi',by omega,by simp only; omega,?_⟩,by simp only; omega⟩
     rw [he]
     simp only [List.map_cons,szAll,if_neg h2]
   ·have hle:l.length≤i:=by simp only [decide_eq_false_iff_not] at h; omega
    rw [List.drop_of_length_le hle] at he
    simp only [szAll,List.map_nil] at he
    rw [he]
def x_l_toRowS:FnX:=⟨23,[.tmp 2],
  .q [.op 2 (.mv (.k (.one (.nils 7))))]
 (.q [.m 5 0,.n 6 5,.op 7 (.mks 7 96 [.pv (.string ⟨#[]⟩),.pv (.int .i64 0),.sl true 1 () [],.pv (.int .i64 0),.sl true 1 () [],.pv (.int .i64 0),.pv (.bool false)] (.t 6)),.m 3 7]
 (.seq (.q [.i 4 0]
 (.block 0 (.loop [0,3,4] (.seq (.q [.m 8 4,.m 9 0,.n 10 9,.b 11 .lss 8 10]
 (.cond 11 .skip (.exit 0)))
 (.seq (.block 1 (.reg [.m 14 3,.m 15 4,.m 16 0,.m 17 4,.x 18 7 16 17,.L 19 7 18,.c 20 378 [19],.x 21 7 14 15,.s 100001 7 21 20]))
 (.reg [.m 12 4,.B 13 .add 12 1,.m 4 13]))))))
 (.norm [3] (.q [.m 22 3,.m 2 22]
 .ret))))⟩
theorem r_l_toRowS {Te:TE} (c_l_toRow:C_l_toRow Te):C_l_toRowS (RF Te x_l_toRowS):=by
 intro l hl
 refine run0 ?_
 have hl1:=hl.1
 simp -implicitDefEqProofs (maxSteps:=1000000) (disch:=omega) only [x_l_toRowS,go_sem,IntWalk.i64_in]
 refine ⟨⟨by simp only [decide_eq_true_eq]; omega,by simp only [decide_eq_true_eq]; omega⟩,?_⟩
 refine loop_of (σ:=Nat) (fun i=>⟨[(0,.one (.ro 7 (l.map (RowV.enc false)))),(3,.one (.rf 24 0 [] 7 0 l.length)),(4,.one (.pv (.int .i64 i)))],[],
  [(0,[slT false 7 (RowV.enc false) l]),(24,[.sl true 7 () ((l.take i).map (RowV.enc true)++List.replicate (l.length - i) [.pv (.string ⟨#[]⟩),.pv (.int .i64 0),.sl true 1 () [],.pv (.int .i64 0),.sl true 1 () [],.pv (.int .i64 0),.pv (.bool false)])])]⟩) (fun i=>i≤l.length) (fun i=>l.length - i) 0 ?_ (Nat.zero_le _) ?_
 ·simp -implicitDefEqProofs (maxSteps:=1000000) only [go_sem]; rfl
 ·intro i hi
  simp -implicitDefEqProofs (maxSteps:=1000000) only [go_sem]
  refine ⟨fun h=>?_,fun h=>?_⟩
  ·have hi':i < l.length:=by simp only [decide_eq_true_eq] at h; omega
   simp -implicitDefEqProofs (maxSteps:=1000000) only [go_sem,List.getElem?_eq_getElem hi',fill_len (RowV.enc true) l [.pv (.string ⟨#[]⟩),.pv (.int .i64 0),.sl true 1 () [],.pv (.int .i64 0),.sl true 1 () [],.pv (.int .i64 0),.pv (.bool false)] hi,storeAp,setCells,List.getD_eq_getElem?_getD,fill_get (RowV.enc true) l [.pv (.string ⟨#[]⟩),.pv (.int .i64 0),.sl true 1 () [],.pv (.int .i64 0),.sl true 1 () [],.pv (.int .i64 0),.pv (.bool false)] hi']
   refine .of (c_l_toRow _ (hl.2 _ (List.getElem_mem hi'))) ?_
   simp -implicitDefEqProofs (maxSteps:=1000000) only [go_sem,fill_len (RowV.enc true) l [.pv (.string ⟨#[]⟩),.pv (.int .i64 0),.sl true 1 () [],.pv (.int .i64 0),.sl true 1 () [],.pv (.int .i64 0),.pv (.bool false)] hi,storeAp,setCells,List.getD_eq_getElem?_getD,fill_get (RowV.enc true) l [.pv (.string ⟨#[]⟩),.pv (.int .i64 0),.sl true 1 () [],.pv (.int .i64 0),.sl true 1 () [],.pv (.int .i64 0),.pv (.bool false)] hi']
   repeat (first | refine ⟨by decide,?_⟩ | refine ⟨by simpa using hi',?_⟩)
   refine ⟨i + 1,?_,hi',by omega⟩
   rw [← fill_set (RowV.enc true) l [.pv (.string ⟨#[]⟩),.pv (.int .i64 0),.sl true 1 () [],.pv (.int .i64 0),.sl true 1 () [],.pv (.int .i64 0),.pv (.bool false)] hi',IntWalk.i64_in _ (by omega)]
   rfl
  ·have:i=l.length:=by simp only [decide_eq_false_iff_not] at h; omega
   subst this
   simp -implicitDefEqProofs (maxSteps:=1000000) only [go_sem,fill_len (RowV.enc true) l [.pv (.string ⟨#[]⟩),.pv (.int .i64 0),.sl true 1 () [],.pv (.int .i64 0),.sl true 1 () [],.pv (.int .i64 0),.pv (.bool false)] hi,fill_end]
   refine ⟨by simp,?_⟩
   simp [take_map]
def x_l_eqRowS:FnX:=⟨27,[.tmp 4],
  .q [.F 4]
 (.seq (.q [.m 6 0,.n 7 6,.m 8 1,.n 9 8,.b 10 .neq 7 9]
 (.c 10 (.q [.F 4]
 .ret)))
 (.seq (.q [.i 5 0]
 (.block 0 (.loop [0,1,5] (.seq (.q [.m 11 5,.m 12 0,.n 13 12,.b 14 .lss 11 13]
 (.cond 14 .skip (.exit 0)))
 (.seq (.block 1 (.seq (.draw [.m 17 0,.m 18 5,.x 19 7 17 18,.L 20 7 19,.m 21 1,.m 22 5,.x 23 7 21 22,.L 24 7 23,.c 25 382 [20,24],.N 26 25] [[],[],[0,1],[2],[],[],[4,5],[6],[3,7],[8]])
 (.c 26 (.q [.F 4]
 .ret))))
 (.reg [.m 15 5,.B 16 .add 15 1,.m 5 16]))))))
 (.norm [] (.q [.T 4]
 .ret))))⟩
theorem r_l_eqRowS {Te:TE} (c_l_eqRow:C_l_eqRow Te):C_l_eqRowS (RF Te x_l_eqRowS):=by
 intro l m hl
 refine run0 ?_
 have hl1:=hl.1
 simp -implicitDefEqProofs (maxSteps:=1000000) (disch:=omega) only [x_l_eqRowS,go_sem,IntWalk.i64_in]
 refine ⟨fun h=>?_,fun h=>?_⟩
 ·have:l≠m:=fun e=>by simp [e] at h
  simp [this]
 ·have hlen:l.length=m.length:=by simp at h; omega
  refine loop_of (σ:=Nat) (fun i=>⟨[(0,.one (.ro 7 (l.map (RowV.enc false)))),(1,.one (.ro 7 (m.map (RowV.enc false)))),(5,.one (.pv (.int .i64 i)))],[],[(0,[slT false 7 (RowV.enc false) l]),(1,[slT false 7 (RowV.enc false) m])]⟩) (fun i=>i≤l.length∧l.take i=m.take i) (fun i=>l.length - i) 0 ?_ ⟨Nat.zero_le _,by simp⟩ ?_
  ·simp -implicitDefEqProofs (maxSteps:=1000000) only [go_sem]; rfl
  ·intro i ⟨hi,hs⟩
   simp -implicitDefEqProofs (maxSteps:=1000000) only [go_sem]
   refine ⟨fun h=>?_,fun h=>?_⟩
   ·have hi':i < l.length:=by simp only [decide_eq_true_eq] at h; omega
    have hj':i < m.length:=by omega
    simp -implicitDefEqProofs (maxSteps:=1000000) only [go_sem,List.getElem?_eq_getElem hi',List.getElem?_eq_getElem hj']
    refine .of (c_l_eqRow _ _ (hl.2 _ (List.getElem_mem hi'))) ?_
    simp -implicitDefEqProofs (maxSteps:=1000000) only [go_sem]
    refine ⟨by decide,fun h2=>?_,fun h2=>?_⟩
    ·have:l≠m:=fun e=>by subst e; simp at h2
     simp [this]
    ·refine ⟨i + 1,by rw [IntWalk.i64_in _ (by omega)]; rfl,⟨hi',same_step hi' hj' hs ?_⟩,by omega⟩
     simpa using h2
   ·have hle:l.length≤i:=by simp only [decide_eq_false_iff_not] at h; omega
    have:l=m:=same_end hle (by omega) hs
    simp [this]
def x_s_PutRow:FnX:=⟨38,[.tmp 4],
  .q [.v 3 1,.op 4 (.mv (.k (.one (.nils 1))))]
 (.q [.op 6 (.bslice 1 []),.m 7 0,.op 8 (.app 1 1 (.t 6) (.t 7)),.m 5 8]
 (.seq (.q [.L 9 7 3,.c 10 289 [9],.N 11 10]
 (.c 11 (.q [.m 12 5,.m 4 12]
 .ret)))
 (.seq (.draw [.m 13 5,.f 14 3 0,.l 15 14,.c 16 284 [13,15],.f 17 3 5,.l 18 17,.op 19 (.conv (.int .u8) (.t 18)),.f 20 3 6,.l 21 20,.c 22 336 [21],.op 23 (.bslice 1 [(.t 19),(.t 22)]),.op 24 (.app 1 1 (.t 16) (.t 23)),.m 5 24] [[],[],[1],[0,2],[],[4],[5],[],[7],[8,3],[6,9],[3,10,9],[11,11,0,1,2,3,4,5,6,7,8,9,10,11]])
 (.seq (.q [.L 25 7 3,.c 26 291 [25]]
 (.c 26 (.reg [.m 27 5,.f 28 3 1,.L 29 2 28,.op 30 (.call 337 [1,0] [(.t 27),(.t 29)]),.m 5 30])))
 (.seq (.q [.L 31 7 3,.c 32 196 [31]]
 (.c 32 (.reg [.m 33 5,.f 34 3 3,.L 35 2 34,.op 36 (.call 337 [1,0] [(.t 33),(.t 35)]),.m 5 36])))
 (.q [.m 37 5,.m 4 37]
 .ret))))))⟩
theorem r_s_PutRow {Te:TE} (c_s_RowOk:C_s_RowOk Te) (c_s_PutText:C_s_PutText Te) (c_s_l11Bit:C_s_l11Bit Te) (c_s_l9Old:C_s_l9Old Te) (c_s_l11Cell:C_s_l11Cell Te) (c_s_l9New:C_s_l9New Te):C_s_PutRow (RF Te x_s_PutRow):=by
 intro b r hb h
 obtain ⟨h1,h2,h3⟩:=h
 have l0:=putText_len b r.Key
 have l1:=putRow1_len b r
 have l2:=putRow2_len b r
 refine X0 x_s_PutRow.eq_1 ?_
 refine C0 (c_s_RowOk r ⟨h1,h2,h3⟩) ?_
 cases g:r.ok
 ·try simp -implicitDefEqProofs (maxSteps:=1000000) only [go_sem,putRow,g,if_false,reduceCtorEq]
  repeat refine ⟨sc,?_⟩
  try exact sf
 have ep:putRow b r=putRow3 b r:=if_pos g
 refine G0 ?_
 refine C0 (c_s_PutText b r.Key (by omega) h1) ?_
 refine .of (c_s_l11Bit r.Aside) ?_
 try simp -implicitDefEqProofs (maxSteps:=1000000) only [go_sem,mkU_wrap,app2B,take2B]
 repeat refine ⟨sc,?_⟩
 try exact sf
 have e1:putText b r.Key++[mkU r.Has,bif r.Aside then 1 else 0]=putRow1 b r:=rfl
 have e2:(putText b r.Key).length + 2=(putRow1 b r).length:=by rw [putRow1,List.length_append]; rfl
 simp only [e1,e2]
 have gw:=win13 (rowOk_win g)
 refine C0 (c_s_l9Old r gw) ?_
 by_cases q2:r.Has=2
 ·have k2:decide (r.Has≠2)=false:=by simp only [ne_eq,q2,not_true_eq_false,decide_false]
  have k1:decide (r.Has≠1)=true:=decide_eq_true (by omega)
  have e3:putRow2 b r=putRow1 b r:=if_pos q2
  have e4:putRow3 b r=putCell (putRow1 b r) r.New:=by rw [putRow3,if_neg (by omega),e3]
  refine G1 k2 ?_
  refine C1 (c_s_l9New r gw) k1 ?_
  exact D2 (c_s_l11Cell (putRow1 b r) r.New (by omega) h3) ep e4
 ·have k2:decide (r.Has≠2)=true:=decide_eq_true q2
  have e3:putRow2 b r=putCell (putRow1 b r) r.Old:=if_neg q2
  have tt:=c_s_l11Cell (putRow1 b r) r.Old (by omega) h2
  rw [← e3] at tt
  refine G1 k2 ?_
  refine C0 (tt) ?_
  refine C0 (c_s_l9New r gw) ?_
  by_cases q1:r.Has=1
  ·have k1:decide (r.Has≠1)=false:=by simp only [ne_eq,q1,not_true_eq_false,decide_false]
   have e4:putRow3 b r=putRow2 b r:=if_pos q1
   exact F3 k1 ep e4
  ·have k1:decide (r.Has≠1)=true:=decide_eq_true q1
   have e4:putRow3 b r=putCell (putRow2 b r) r.New:=if_neg q1
   refine G1 k1 ?_
   exact D2 (c_s_l11Cell (putRow2 b r) r.New (by omega) h3) ep e4
def x_l_markMsgS_7:XCode:=.q [.m 63 0,.m 64 5,.m 65 1,.x 66 8 63 64,.f 67 66 7,.s 100008 1 67 65]
 (.reg [.m 68 1,.B 69 .add 68 1,.m 1 69])
def x_l_markMsgS_6:XCode:=.q [.m 56 0,.m 57 5,.m 58 1,.x 59 8 56 57,.f 60 59 6,.s 100007 1 60 58]
 (.q [.m 61 1,.B 62 .add 61 1,.m 1 62]
 x_l_markMsgS_7)
def x_l_markMsgS_5:XCode:=.q [.m 48 0,.m 49 5,.m 50 1,.c 51 146 [50],.x 52 8 48 49,.f 53 52 5,.s 100006 1 53 51]
 (.q [.m 54 1,.B 55 .add 54 1,.m 1 55]
 x_l_markMsgS_6)
def x_l_markMsgS_4:XCode:=.q [.m 40 0,.m 41 5,.m 42 1,.c 43 146 [42],.x 44 8 40 41,.f 45 44 4,.s 100005 1 45 43]
 (.q [.m 46 1,.B 47 .add 46 1,.m 1 47]
 x_l_markMsgS_5)
def x_l_markMsgS_3:XCode:=.q [.m 33 0,.m 34 5,.m 35 1,.x 36 8 33 34,.f 37 36 3,.s 100004 1 37 35]
 (.q [.m 38 1,.B 39 .add 38 1,.m 1 39]
 x_l_markMsgS_4)
def x_l_markMsgS_2:XCode:=.q [.m 26 0,.m 27 5,.m 28 1,.x 29 8 26 27,.f 30 29 2,.s 100003 1 30 28]
 (.q [.m 31 1,.B 32 .add 31 1,.m 1 32]
 x_l_markMsgS_3)
def x_l_markMsgS_1:XCode:=.q [.m 19 0,.m 20 5,.m 21 1,.x 22 8 19 20,.f 23 22 1,.s 100002 1 23 21]
 (.q [.m 24 1,.B 25 .add 24 1,.m 1 25]
 x_l_markMsgS_2)
def x_l_markMsgS:FnX:=⟨71,[.tmp 4],
  .q [.i 4 0]
 (.seq (.q [.i 5 0]
 (.block 0 (.loop [0,1,5] (.seq (.q [.m 6 5,.m 7 0,.n 8 7,.b 9 .lss 6 8]
 (.cond 9 .skip (.exit 0)))
 (.seq (.block 1 (.q [.m 12 0,.m 13 5,.m 14 1,.x 15 8 12 13,.f 16 15 0,.s 100001 1 16 14]
 (.q [.m 17 1,.B 18 .add 17 1,.m 1 18]
 x_l_markMsgS_1)))
 (.reg [.m 10 5,.B 11 .add 10 1,.m 5 11]))))))
 (.norm [1] (.q [.m 70 1,.m 4 70]
 .ret)))⟩
theorem r_l_markMsgS {Te:TE} (c_l_markText:C_l_markText Te):C_l_markMsgS (RF Te x_l_markMsgS):=by
 intro l k hl hk
 refine run0 ?_
 simp -implicitDefEqProofs (maxSteps:=1000000) (disch:=omega) only [x_l_markMsgS,go_sem,IntWalk.i64_in]
 refine loop_of (σ:=Nat) (fun i=>⟨[(0,.one (.rf 0 0 [] 8 0 l.length)),(1,.one (.pv (.int .i64 (k + (8 * i:Nat))))),(5,.one (.pv (.int .i64 i)))],[],[(0,[.sl true 8 () ((marks 8 mkMsg i k).map Msg.row++(l.drop i).map Msg.row)]),(1,[iT k])]⟩) (fun i=>i≤l.length) (fun i=>l.length - i) 0 ?_ (Nat.zero_le _) ?_
 ·simp -implicitDefEqProofs (maxSteps:=1000000) only [go_sem]; simp [marks]
 ·intro i hi
  simp -implicitDefEqProofs (maxSteps:=1000000) only [go_sem]
  refine ⟨fun h=>?_,fun h=>?_⟩
  ·have hi':i < l.length:=by simp only [decide_eq_true_eq] at h; omega
   try simp -implicitDefEqProofs (maxSteps:=1000000) (disch:=omega) only [go_sem,storeAp,setCells,List.length_set,List.set_set,mark_len Msg.row 8 mkMsg l k hi,List.getD_eq_getElem?_getD,mark_get Msg.row 8 mkMsg l k hi',mark_reget Msg.row 8 mkMsg l k hi',Option.getD_some,IntWalk.i64_in]
   repeat (first | refine ⟨by decide,?_⟩ | refine ⟨decide_eq_true hi',?_⟩)
   simp -implicitDefEqProofs (maxSteps:=1000000) (disch:=omega) only [x_l_markMsgS_1,go_sem,storeAp,setCells,List.length_set,List.set_set,mark_len Msg.row 8 mkMsg l k hi,List.getD_eq_getElem?_getD,mark_get Msg.row 8 mkMsg l k hi',mark_reget Msg.row 8 mkMsg l k hi',Option.getD_some,IntWalk.i64_in]
   repeat (first | refine ⟨by decide,?_⟩ | refine ⟨decide_eq_true hi',?_⟩)
   simp -implicitDefEqProofs (maxSteps:=1000000) (disch:=omega) only [x_l_markMsgS_2,go_sem,storeAp,setCells,List.length_set,List.set_set,mark_len Msg.row 8 mkMsg l k hi,List.getD_eq_getElem?_getD,mark_get Msg.row 8 mkMsg l k hi',mark_reget Msg.row 8 mkMsg l k hi',Option.getD_some,IntWalk.i64_in]
   repeat (first | refine ⟨by decide,?_⟩ | refine ⟨decide_eq_true hi',?_⟩)
   simp -implicitDefEqProofs (maxSteps:=1000000) (disch:=omega) only [x_l_markMsgS_3,go_sem,storeAp,setCells,List.length_set,List.set_set,mark_len Msg.row 8 mkMsg l k hi,List.getD_eq_getElem?_getD,mark_get Msg.row 8 mkMsg l k hi',mark_reget Msg.row 8 mkMsg l k hi',Option.getD_some,IntWalk.i64_in]
   repeat (first | refine ⟨by decide,?_⟩ | refine ⟨decide_eq_true hi',?_⟩)
   simp -implicitDefEqProofs (maxSteps:=1000000) (disch:=omega) only [x_l_markMsgS_4,go_sem,storeAp,setCells,List.length_set,List.set_set,mark_len Msg.row 8 mkMsg l k hi,List.getD_eq_getElem?_getD,mark_get Msg.row 8 mkMsg l k hi',mark_reget Msg.row 8 mkMsg l k hi',Option.getD_some,IntWalk.i64_in]
   repeat (first | refine ⟨by decide,?_⟩ | refine ⟨decide_eq_true hi',?_⟩)
   refine .of (c_l_markText _ (by omega)) ?_
   simp -implicitDefEqProofs (maxSteps:=1000000) (disch:=omega) only [go_sem,storeAp,setCells,List.length_set,List.set_set,mark_len Msg.row 8 mkMsg l k hi,List.getD_eq_getElem?_getD,mark_get Msg.row 8 mkMsg l k hi',mark_reget Msg.row 8 mkMsg l k hi',Option.getD_some,IntWalk.i64_in]
   repeat (first | refine ⟨by decide,?_⟩ | refine ⟨decide_eq_true hi',?_⟩)
   simp -implicitDefEqProofs (maxSteps:=1000000) (disch:=omega) only [x_l_markMsgS_5,go_sem,storeAp,setCells,List.length_set,List.set_set,mark_len Msg.row 8 mkMsg l k hi,List.getD_eq_getElem?_getD,mark_get Msg.row 8 mkMsg l k hi',mark_reget Msg.row 8 mkMsg l k hi',Option.getD_some,IntWalk.i64_in]
   repeat (first | refine ⟨by decide,?_⟩ | refine ⟨decide_eq_true hi',?_⟩)
   refine .of (c_l_markText _ (by omega)) ?_
   simp -implicitDefEqProofs (maxSteps:=1000000) (disch:=omega) only [go_sem,storeAp,setCells,List.length_set,List.set_set,mark_len Msg.row 8 mkMsg l k hi,List.getD_eq_getElem?_getD,mark_get Msg.row 8 mkMsg l k hi',mark_reget Msg.row 8 mkMsg l k hi',Option.getD_some,IntWalk.i64_in]
   repeat (first | refine ⟨by decide,?_⟩ | refine ⟨decide_eq_true hi',?_⟩)
   simp -implicitDefEqProofs (maxSteps:=1000000) (disch:=omega) only [x_l_markMsgS_6,go_sem,storeAp,setCells,List.length_set,List.set_set,mark_len Msg.row 8 mkMsg l k hi,List.getD_eq_getElem?_getD,mark_get Msg.row 8 mkMsg l k hi',mark_reget Msg.row 8 mkMsg l k hi',Option.getD_some,IntWalk.i64_in]
   repeat (first | refine ⟨by decide,?_⟩ | refine ⟨decide_eq_true hi',?_⟩)
   simp -implicitDefEqProofs (maxSteps:=1000000) (disch:=omega) only [x_l_markMsgS_7,go_sem,storeAp,setCells,List.length_set,List.set_set,mark_len Msg.row 8 mkMsg l k hi,List.getD_eq_getElem?_getD,mark_get Msg.row 8 mkMsg l k hi',mark_reget Msg.row 8 mkMsg l k hi',Option.getD_some,IntWalk.i64_in]
   repeat (first | refine ⟨by decide,?_⟩ | refine ⟨decide_eq_true hi',?_⟩)
   refine ⟨i + 1,?_,hi',by omega⟩
   rw [← mark_set Msg.row 8 mkMsg l k hi',show k + ((8 * (i + 1):Nat):Int)=k + (8 * i:Nat) + 1 + 1 + 1 + 1 + 1 + 1 + 1 + 1 by omega]
   rfl
  ·have:i=l.length:=by simp only [decide_eq_false_iff_not] at h; omega
   subst this
   simp -implicitDefEqProofs (maxSteps:=1000000) only [go_sem,mark_end]
def x_l_markRowS:FnX:=⟨69,[.tmp 4],
  .q [.i 4 0]
 (.seq (.q [.i 5 0]
 (.block 0 (.loop [0,1,5] (.seq (.q [.m 6 5,.m 7 0,.n 8 7,.b 9 .lss 6 8]
 (.cond 9 .skip (.exit 0)))
 (.seq (.block 1 (.q [.m 12 0,.m 13 5,.m 14 1,.c 15 146 [14],.x 16 7 12 13,.f 17 16 0,.s 100001 1 17 15]
 (.q [.m 18 1,.B 19 .add 18 1,.m 1 19]
 (.q [.m 20 0,.m 21 5,.m 22 1,.x 23 7 20 21,.f 24 23 1,.f 25 24 0,.s 100002 1 25 22]
 (.q [.m 26 1,.B 27 .add 26 1,.m 1 27]
 (.q [.m 28 0,.m 29 5,.x 30 7 28 29,.f 31 30 1,.f 32 31 1,.l 33 32,.m 34 1,.op 35 (.io 300 (.t 33) [(.t 34)]),.m 1 35]
 (.q [.m 36 0,.m 37 5,.m 38 1,.x 39 7 36 37,.f 40 39 3,.f 41 40 0,.s 100003 1 41 38]
 (.q [.m 42 1,.B 43 .add 42 1,.m 1 43]
 (.q [.m 44 0,.m 45 5,.x 46 7 44 45,.f 47 46 3,.f 48 47 1,.l 49 48,.m 50 1,.op 51 (.io 300 (.t 49) [(.t 50)]),.m 1 51]
 (.q [.m 52 0,.m 53 5,.m 54 1,.x 55 7 52 53,.f 56 55 5,.s 100004 1 56 54]
 (.q [.m 57 1,.B 58 .add 57 1,.m 1 58]
 (.q [.m 59 0,.m 60 5,.m 61 1,.B 62 .rem 61 3,.B 63 .eql 62 0,.x 64 7 59 60,.f 65 64 6,.s 100005 1 65 63]
 (.reg [.m 66 1,.B 67 .add 66 1,.m 1 67])))))))))))))
 (.reg [.m 10 5,.B 11 .add 10 1,.m 5 11]))))))
 (.norm [1] (.q [.m 68 1,.m 4 68]
 .ret)))⟩
theorem r_l_markRowS {Te:TE} (c_l_markText:C_l_markText Te) (c_l_markByteS:C_l_markByteS Te):C_l_markRowS (RF Te x_l_markRowS):=by
 intro l k hl hk
 refine run0 ?_
 have hl1:=hl.1
 simp -implicitDefEqProofs (maxSteps:=1000000) (disch:=omega) only [x_l_markRowS,go_sem,IntWalk.i64_in]
 refine loop_of (σ:=Nat) (fun i=>⟨[(0,.one (.rf 0 0 [] 7 0 l.length)),(1,.one (.pv (.int .i64 (farL RowV.farE (l.take i) k)))),(5,.one (.pv (.int .i64 i)))],[],[(0,[.sl true 7 () ((markL RowV.markE RowV.farE (l.take i) k).map (RowV.enc true)++(l.drop i).map (RowV.enc true))]),(1,[iT k])]⟩) (fun i=>i≤l.length) (fun i=>l.length - i) 0 ?_ (Nat.zero_le _) ?_
 ·simp -implicitDefEqProofs (maxSteps:=1000000) only [go_sem]; simp [markL,farL]
 ·intro i hi
  simp -implicitDefEqProofs (maxSteps:=1000000) only [go_sem]
  refine ⟨fun h=>?_,fun h=>?_⟩
  ·have hi':i < l.length:=by simp only [decide_eq_true_eq] at h; omega
   have hb:k≤farL RowV.farE (l.take i) k∧farL RowV.farE (l.take i) k≤k + 8796103507968:=by
    have q:=farL_le (n:=2 ^ 21) (k:=k) (c:=4194309) (l:=l.take i) ⟨by rw [List.length_take]; omega,fun y hy=>hl.2 y (List.mem_of_mem_take hy)⟩ (fun y hy k=>RowV.farE_le hy k)
    omega
   have he:=hl.2 _ (List.getElem_mem hi')
   have hset:=markL_set (RowV.enc true) RowV.markE RowV.farE l k hi'
   have hnext:=farL_take RowV.farE l k hi'
   have e0:l[i].Old.B.length≤2 ^ 21:=he.1
   have e1:l[i].New.B.length≤2 ^ 21:=he.2
   generalize farL RowV.farE (l.take i) k=j at hb hset hnext ⊢
   try simp -implicitDefEqProofs (maxSteps:=1000000) (disch:=omega) only [go_sem,storeAp,setCells,List.length_set,List.set_set,markL_len (RowV.enc true) RowV.markE RowV.farE l k hi,List.getD_eq_getElem?_getD,markL_at (RowV.enc true) RowV.markE RowV.farE l k hi',markL_reat (RowV.enc true) RowV.markE RowV.farE l k hi',Option.getD_some,IntWalk.i64_in]
   repeat (first | refine ⟨by decide,?_⟩ | refine ⟨decide_eq_true hi',?_⟩)
   refine .of (c_l_markText _ (by omega)) ?_
   simp -implicitDefEqProofs (maxSteps:=1000000) (disch:=omega) only [go_sem,storeAp,setCells,List.length_set,List.set_set,markL_len (RowV.enc true) RowV.markE RowV.farE l k hi,List.getD_eq_getElem?_getD,markL_at (RowV.enc true) RowV.markE RowV.farE l k hi',markL_reat (RowV.enc true) RowV.markE RowV.farE l k hi',Option.getD_some,IntWalk.i64_in]
   repeat (first | refine ⟨by decide,?_⟩ | refine ⟨decide_eq_true hi',?_⟩)
   refine .of (c_l_markByteS (l[i].Old.B) _ (by omega) (by omega)) ?_
   simp -implicitDefEqProofs (maxSteps:=1000000) (disch:=omega) only [go_sem,storeAp,setCells,List.length_set,List.set_set,markL_len (RowV.enc true) RowV.markE RowV.farE l k hi,List.getD_eq_getElem?_getD,markL_at (RowV.enc true) RowV.markE RowV.farE l k hi',markL_reat (RowV.enc true) RowV.markE RowV.farE l k hi',Option.getD_some,IntWalk.i64_in]
   repeat (first | refine ⟨by decide,?_⟩ | refine ⟨decide_eq_true hi',?_⟩)
   refine .of (c_l_markByteS (l[i].New.B) _ (by omega) (by omega)) ?_
   simp -implicitDefEqProofs (maxSteps:=1000000) (disch:=omega) only [go_sem,storeAp,setCells,List.length_set,List.set_set,markL_len (RowV.enc true) RowV.markE RowV.farE l k hi,List.getD_eq_getElem?_getD,markL_at (RowV.enc true) RowV.markE RowV.farE l k hi',markL_reat (RowV.enc true) RowV.markE RowV.farE l k hi',Option.getD_some,IntWalk.i64_in]
   repeat (first | refine ⟨by decide,?_⟩ | refine ⟨decide_eq_true hi',?_⟩)
   refine ⟨i + 1,?_,hi',by omega⟩
   rw [hnext,← hset]
   rfl
  ·have:i=l.length:=by simp only [decide_eq_false_iff_not] at h; omega
   subst this
   simp -implicitDefEqProofs (maxSteps:=1000000) only [go_sem,List.take_length,List.drop_length,List.map_nil,List.append_nil]
def x_s_l9Old:FnX:=⟨7,[.tmp 2],
  .q [.v 1 0,.F 2]
 (.q [.f 3 1 5,.l 4 3,.B 5 .and 4 1,.B 6 .eql 5 1,.m 2 6]
 .ret)⟩
theorem r_s_l9Old {Te:TE}:C_s_l9Old (RF Te x_s_l9Old):=by
 intro r h
 refine run0 ?_
 have e:=and1_has _ h
 simp -implicitDefEqProofs (maxSteps:=1000000) only [x_s_l9Old,go_sem,e]
 repeat refine ⟨sc,?_⟩
 try exact sf
def x_s_l9New:FnX:=⟨7,[.tmp 2],
  .q [.v 1 0,.F 2]
 (.q [.f 3 1 5,.l 4 3,.B 5 .and 4 2,.B 6 .eql 5 2,.m 2 6]
 .ret)⟩
theorem r_s_l9New {Te:TE}:C_s_l9New (RF Te x_s_l9New):=by
 intro r h
 refine run0 ?_
 have e:=and2_has _ h
 simp -implicitDefEqProofs (maxSteps:=1000000) only [x_s_l9New,go_sem,e]
 repeat refine ⟨sc,?_⟩
 try exact sf
def x_i_ClientNew:FnX:=⟨5,[.cell 2 (some 12)],
  .q [.op 2 (.alloc [.i 0,.i 0,.F,.i 0,.i 0,.i 0,.i 0,.e,.e,.i 0,.i 0,.nils 5])]
 (.q [.m 3 0,.op 4 (.build [.i 0,.i 0,.F,.i 0,.i 0,.i 0,.i 0,.e,.e,.i 0,.i 0,.nils 5] [(0,1,(.t 3))]),.s 100001 12 2 4]
 .ret)⟩
theorem r_i_ClientNew {Te:TE}:C_i_ClientNew (RF Te x_i_ClientNew):=by
 intro id
 refine run0 ?_
 simp -implicitDefEqProofs (maxSteps:=1000000) only [x_i_ClientNew,go_sem]
 rfl
def x_s_ClientNew:FnX:=⟨5,[.cell 2 (some 12)],
  .q [.op 2 (.alloc [.i 0,.i 0,.F,.i 0,.i 0,.i 0,.i 0,.e,.e,.i 0,.i 0,.nils 5])]
 (.q [.m 3 0,.op 4 (.build [.i 0,.i 0,.F,.i 0,.i 0,.i 0,.i 0,.e,.e,.i 0,.i 0,.nils 5] [(0,1,(.t 3))]),.s 100001 12 2 4]
 .ret)⟩
theorem r_s_ClientNew {Te:TE}:C_s_ClientNew (RF Te x_s_ClientNew):=by
 intro id
 refine run0 ?_
 simp -implicitDefEqProofs (maxSteps:=1000000) only [x_s_ClientNew,go_sem]
 rfl
end Go.X

