/- Texts: CVj_4 CEc_2 CE CVo CE_2 CVg CVla CS CC_4 CEa_4 CVd_2. -/
import Derived.Test.YtmmjaijeeeilcaaGreatDoorW04
set_option linter.unusedVariables false
set_option linter.unusedSimpArgs false
namespace Go.X
set_option maxRecDepth 100000
set_option maxHeartbeats 8000000
def x_s_PutRec:FnX:=⟨70,[.tmp 6],
  .q [.v 5 2,.op 6 (.mv (.k (.one (.nils 1))))]
 (.seq (.q [.L 8 13 5,.c 9 276 [8],.N 10 9,.m 11 10,.z 11 (.m 12 0),.z 11 (.c 13 161 [12]),.z 11 (.N 14 13),.r 15 11 14,.m 16 15,.z 16 (.m 17 1),.z 16 (.c 18 161 [17]),.z 16 (.N 19 18),.r 20 16 19]
 (.c 20 (.q [.op 21 (.bslice 1 []),.m 6 21]
 .ret)))
 (.seq (.draw [.op 22 (.bslice 1 []),.m 23 0,.c 24 282 [22,23],.m 25 1,.c 26 282 [24,25],.f 27 5 0,.l 28 27,.op 29 (.conv (.int .u8) (.t 28)),.op 30 (.bslice 1 [(.t 29)]),.op 31 (.app 1 1 (.t 26) (.t 30)),.m 7 31] [[],[],[0,1],[],[2,3,2],[],[5],[6],[7],[4,8,4],[9,9,0,1,2,3,4,5,6,7,8,9]])
 (.seq (.q [.f 32 5 0,.l 33 32]
 (.block 0 (.q [.B 35 .eql 33 1,.m 34 35]
 (.cond 34 (.reg [.m 36 7,.f 37 5 1,.L 38 7 37,.c 39 283 [36,38],.m 7 39]) (.q [.B 41 .eql 33 2,.m 40 41]
 (.cond 40 (.reg [.m 42 7,.f 43 5 8,.l 44 43,.c 45 284 [42,44],.m 7 45]) (.q [.B 47 .eql 33 3,.m 46 47]
 (.c 46 (.reg [.m 48 7,.f 49 5 9,.l 50 49,.op 51 (.conv (.int .u8) (.t 50)),.op 52 (.bslice 1 [(.t 51)]),.op 53 (.app 1 1 (.t 48) (.t 52)),.m 7 53])))))))))
 (.seq (.draw [.m 54 7,.f 55 5 10,.l 56 55,.op 57 (.conv (.int .u8) (.t 56)),.f 58 5 12,.l 59 58,.op 60 (.conv (.int .u8) (.t 59)),.op 61 (.bslice 1 [(.t 57),(.t 60)]),.op 62 (.app 1 1 (.t 54) (.t 61)),.f 63 5 11,.l 64 63,.c 65 282 [62,64],.m 7 65] [[],[],[1],[2],[],[4],[5],[3,6],[0,7],[],[9],[8,10,8],[11,11,0,1,2,3,4,5,6,7,8,9,10,11]])
 (.q [.m 66 7,.m 67 7,.c 68 285 [67],.c 69 282 [66,68],.m 6 69]
 .ret)))))⟩
theorem r_s_PutRec {Te:TE} (c_s_RecOk:C_s_RecOk Te) (c_s_l1Word:C_s_l1Word Te) (c_s_PutW:C_s_PutW Te) (c_s_PutRow:C_s_PutRow Te) (c_s_PutText:C_s_PutText Te) (c_s_Sum:C_s_Sum Te):C_s_PutRec (RF Te x_s_PutRec):=by
 intro gen place r h
 have h1:=h.1
 have h2:=h.2
 refine X0 x_s_PutRec.eq_1 ?_
 refine C0 (c_s_RecOk r h) ?_
 cases g1:r.ok
 ·have e:=recNo1 (gen:=gen) (place:=place) g1
  exact F1 e
 refine G0 ?_
 refine C0 (c_s_l1Word _) ?_
 cases g2:win gen 0 65535
 ·have e:=recNo2 (place:=place) (r:=r) g2
  exact F1 e
 refine G0 ?_
 refine C0 (c_s_l1Word _) ?_
 cases g3:win place 0 65535
 ·have e:=recNo3 (gen:=gen) (r:=r) g3
  exact F1 e
 refine G0 ?_
 have ey:=recYes g1 g2 g3
 have lw:(putW (putW [] gen) place).length=4:=by rw [putW_len,putW_len]; rfl
 have t1:=c_s_PutW [] gen (by show 0≤2 ^ 30; decide)
 refine C0 (t1) ?_
 refine .of (c_s_PutW (putW [] gen) place (by rw [putW_len]; show 0 + 2≤2 ^ 30; decide)) ?_
 try simp -implicitDefEqProofs (maxSteps:=1000000) only [go_sem,mkU_wrap,app1B,take1B]
 repeat refine ⟨sc,?_⟩
 try exact sf
 have e1:putW (putW [] gen) place++[mkU r.Kind]=recHead gen place r:=rfl
 have e2:(putW (putW [] gen) place).length + 1=(recHead gen place r).length:=by rw [recHead,List.length_append]; rfl
 simp only [e1,e2]
 have l0:=recHead_len gen place r
 generalize eH:recHead gen place r=H at l0 ⊢
 by_cases q1:r.Kind=1
 ·have k1:(r.Kind==1)=true:=by rw [q1]; rfl
  refine G1 k1 ?_
  refine C0 (c_s_PutRow H r.R (by omega) h1) ?_
  have e3:putRow H r.R=recKind H r:=(if_pos q1).symm
  have l3:=recKind_len H r
  try simp -implicitDefEqProofs (maxSteps:=1000000) only [go_sem,e3,mkU_wrap,app2B,take2B]
  repeat refine ⟨sc,?_⟩
  try exact sf
  have tt:=c_s_PutW (recKind H r++[mkU r.Who,mkU r.Code]) r.Seq (by rw [List.length_append]; simp only [List.length_cons,List.length_nil]; omega)
  have e4:putW (recKind H r++[mkU r.Who,mkU r.Code]) r.Seq=recBody gen place r:=by rw [recBody,eH]
  rw [e4] at tt
  refine C0 (tt) ?_
  have l4:=recBody_len gen place r
  refine C0 (c_s_Sum (recBody gen place r) (by omega)) ?_
  refine .of (c_s_PutW (recBody gen place r) _ (by omega)) ?_
  try simp -implicitDefEqProofs (maxSteps:=1000000) only [go_sem,ey]
  repeat refine ⟨sc,?_⟩
  try exact sf
 by_cases q2:r.Kind=2
 ·have k1:(r.Kind==1)=false:=by rw [q2]; rfl
  have k2:(r.Kind==2)=true:=by rw [q2]; rfl
  refine G2 k1 k2 ?_
  refine C0 (c_s_PutText H r.Key (by omega) h2) ?_
  have e3:putText H r.Key=recKind H r:=by rw [recKind,if_neg q1,if_pos q2]
  have l3:=recKind_len H r
  try simp -implicitDefEqProofs (maxSteps:=1000000) only [go_sem,e3,mkU_wrap,app2B,take2B]
  repeat refine ⟨sc,?_⟩
  try exact sf
  have tt:=c_s_PutW (recKind H r++[mkU r.Who,mkU r.Code]) r.Seq (by rw [List.length_append]; simp only [List.length_cons,List.length_nil]; omega)
  have e4:putW (recKind H r++[mkU r.Who,mkU r.Code]) r.Seq=recBody gen place r:=by rw [recBody,eH]
  rw [e4] at tt
  refine C0 (tt) ?_
  have l4:=recBody_len gen place r
  refine C0 (c_s_Sum (recBody gen place r) (by omega)) ?_
  refine .of (c_s_PutW (recBody gen place r) _ (by omega)) ?_
  try simp -implicitDefEqProofs (maxSteps:=1000000) only [go_sem,ey]
  repeat refine ⟨sc,?_⟩
  try exact sf
 by_cases q3:r.Kind=3
 ·have k1:(r.Kind==1)=false:=by rw [q3]; rfl
  have k2:(r.Kind==2)=false:=by rw [q3]; rfl
  have k3:(r.Kind==3)=true:=by rw [q3]; rfl
  have e3:H++[mkU r.N]=recKind H r:=by rw [recKind,if_neg q1,if_neg q2,if_pos q3]
  have e5:H.length + 1=(recKind H r).length:=by rw [← e3,List.length_append]; rfl
  have l3:=recKind_len H r
  try simp -implicitDefEqProofs (maxSteps:=1000000) only [go_sem,k1,k2,k3,mkU_wrap,app1B,e3,e5,take_rows]
  repeat refine ⟨sc,?_⟩
  try exact sf
  try simp -implicitDefEqProofs (maxSteps:=1000000) only [go_sem,e3,mkU_wrap,app2B,take2B]
  repeat refine ⟨sc,?_⟩
  try exact sf
  have tt:=c_s_PutW (recKind H r++[mkU r.Who,mkU r.Code]) r.Seq (by rw [List.length_append]; simp only [List.length_cons,List.length_nil]; omega)
  have e4:putW (recKind H r++[mkU r.Who,mkU r.Code]) r.Seq=recBody gen place r:=by rw [recBody,eH]
  rw [e4] at tt
  refine C0 (tt) ?_
  have l4:=recBody_len gen place r
  refine C0 (c_s_Sum (recBody gen place r) (by omega)) ?_
  refine .of (c_s_PutW (recBody gen place r) _ (by omega)) ?_
  try simp -implicitDefEqProofs (maxSteps:=1000000) only [go_sem,ey]
  repeat refine ⟨sc,?_⟩
  try exact sf
 obtain ⟨k1,k2,k3⟩:=other3 q1 q2 q3
 refine G3 k1 k2 k3 ?_
 have e3:recKind H r=H:=by rw [recKind,if_neg q1,if_neg q2,if_neg q3]
 try simp -implicitDefEqProofs (maxSteps:=1000000) only [go_sem,mkU_wrap,app2B,take2B]
 repeat refine ⟨sc,?_⟩
 try exact sf
 have tt:=c_s_PutW (H++[mkU r.Who,mkU r.Code]) r.Seq (by rw [List.length_append]; simp only [List.length_cons,List.length_nil]; omega)
 have e4:putW (H++[mkU r.Who,mkU r.Code]) r.Seq=recBody gen place r:=by rw [recBody,eH,e3]
 rw [e4] at tt
 refine C0 (tt) ?_
 have l4:=recBody_len gen place r
 refine C0 (c_s_Sum (recBody gen place r) (by omega)) ?_
 refine .of (c_s_PutW (recBody gen place r) _ (by omega)) ?_
 try simp -implicitDefEqProofs (maxSteps:=1000000) only [go_sem,ey]
 repeat refine ⟨sc,?_⟩
 try exact sf
def x_i_HeadOf:FnX:=⟨22,[.tmp 4],
  .q [.op 4 (.mv (.k (.one (.nils 1))))]
 (.seq (.q [.m 6 0,.op 7 (.call 90 [0,0,0] [(.t 6),(.i 1),(.i 60000)]),.N 8 7,.m 9 8,.z 9 (.m 10 1),.z 9 (.op 11 (.call 90 [0,0,0] [(.t 10),(.i 0),(.i 30)])),.z 9 (.N 12 11),.r 13 9 12]
 (.c 13 (.q [.op 4 (.mv (.k (.one (.nils 1))))]
 .ret)))
 (.q [.m 14 0,.op 15 (.call 312 [0,0] [(.k (.one (.nils 1))),(.t 14)]),.m 16 1,.c 17 312 [15,16],.m 5 17]
 (.q [.m 18 5,.m 19 5,.c 20 315 [19],.c 21 312 [18,20],.m 4 21]
 .ret)))⟩
theorem r_i_HeadOf {Te:TE} (c_i_within:C_i_within Te) (c_i_PutW:C_i_PutW Te) (c_i_Sum:C_i_Sum Te):C_i_HeadOf (RF Te x_i_HeadOf):=by
 intro gen n
 refine X0 x_i_HeadOf.eq_1 ?_
 refine C0 (c_i_within _ _ _) ?_
 cases g1:win gen 1 60000
 ·have e:headOf gen n=[]:=by rw [headOf,headGood,g1]; rfl
  exact F1 e
 refine G0 ?_
 refine C0 (c_i_within _ _ _) ?_
 cases g2:win n 0 30
 ·have e:headOf gen n=[]:=by rw [headOf,headGood,g1,g2]; rfl
  exact F1 e
 refine G0 ?_
 have e:headOf gen n=putW (putW (putW [] gen) n) (sum (putW (putW [] gen) n):Nat):=by rw [headOf,headGood,g1,g2]; rfl
 have l1:(putW (putW [] gen) n).length=4:=by rw [putW_len,putW_len]; rfl
 have t1:=c_i_PutW [] gen (by show 0≤2 ^ 30; decide)
 refine C0 (t1) ?_
 refine C0 (c_i_PutW (putW [] gen) n (by rw [putW_len]; show 0 + 2≤2 ^ 30; decide)) ?_
 refine C0 (c_i_Sum (putW (putW [] gen) n) (by omega)) ?_
 refine .of (c_i_PutW (putW (putW [] gen) n) _ (by omega)) ?_
 try simp -implicitDefEqProofs (maxSteps:=1000000) only [go_sem,e]
 repeat refine ⟨sc,?_⟩
 try exact sf
def x_l_markActSS:FnX:=⟨19,[.tmp 4],
  .q [.i 4 0]
 (.seq (.q [.i 5 0]
 (.block 0 (.loop [0,1,5] (.seq (.q [.m 6 5,.m 7 0,.n 8 7,.b 9 .lss 6 8]
 (.cond 9 .skip (.exit 0)))
 (.seq (.block 1 (.reg [.m 12 0,.m 13 5,.x 14 1 12 13,.l 15 14,.m 16 1,.op 17 (.io 53 (.t 15) [(.t 16)]),.m 1 17]))
 (.reg [.m 10 5,.B 11 .add 10 1,.m 5 11]))))))
 (.norm [1] (.q [.m 18 1,.m 4 18]
 .ret)))⟩
theorem r_l_markActSS {Te:TE} (c_l_markActS:C_l_markActS Te):C_l_markActSS (RF Te x_l_markActSS):=by
 intro l k hl hk hf
 refine run0 ?_
 have hl1:=hl.1
 simp -implicitDefEqProofs (maxSteps:=1000000) (disch:=omega) only [x_l_markActSS,go_sem,IntWalk.i64_in]
 refine loop_of (σ:=Nat) (fun i=>⟨[(0,.one (.rf 0 0 [] 1 0 l.length)),(1,.one (.pv (.int .i64 (farL (fun y k=>k + (6 * y.length:Nat)) (l.take i) k)))),(5,.one (.pv (.int .i64 i)))],[],[(0,[.sl true 1 () ((markL (fun y k=>marks 6 mkAct y.length k) (fun y k=>k + (6 * y.length:Nat)) (l.take i) k).map (fun y=>[slT true 6 ActV.row y])++(l.drop i).map (fun y=>[slT true 6 ActV.row y]))]),(1,[iT k])]⟩) (fun i=>i≤l.length) (fun i=>l.length - i) 0 ?_ (Nat.zero_le _) ?_
 ·simp -implicitDefEqProofs (maxSteps:=1000000) only [go_sem]; simp [markL,farL]
 ·intro i hi
  simp -implicitDefEqProofs (maxSteps:=1000000) only [go_sem]
  refine ⟨fun h=>?_,fun h=>?_⟩
  ·have hi':i < l.length:=by simp only [decide_eq_true_eq] at h; omega
   have hb:=farL_mid (f:=(fun y k=>k + (6 * y.length:Nat))) (p:=fun y=>y.length≤2 ^ 21) hl.2 monoActSS k hi'
   have he:=hl.2 _ (List.getElem_mem hi')
   have hm:=monoActSS _ he (farL (fun y k=>k + (6 * y.length:Nat)) (l.take i) k)
   have hset:=markL_set (fun y=>[slT true 6 ActV.row y]) (fun y k=>marks 6 mkAct y.length k) (fun y k=>k + (6 * y.length:Nat)) l k hi'
   have hnext:=farL_take (fun y k=>k + (6 * y.length:Nat)) l k hi'
   generalize farL (fun y k=>k + (6 * y.length:Nat)) (l.take i) k=j at hb hm hset hnext ⊢
   replace hb:k≤j∧(j + (6 * l[i].length:Nat))≤farL (fun y k=>k + (6 * y.length:Nat)) l k:=hb
   try simp -implicitDefEqProofs (maxSteps:=1000000) (disch:=omega) only [go_sem,storeAp,setCells,List.length_set,List.set_set,markL_len (fun y=>[slT true 6 ActV.row y]) (fun y k=>marks 6 mkAct y.length k) (fun y k=>k + (6 * y.length:Nat)) l k hi,List.getD_eq_getElem?_getD,markL_at (fun y=>[slT true 6 ActV.row y]) (fun y k=>marks 6 mkAct y.length k) (fun y k=>k + (6 * y.length:Nat)) l k hi',markL_reat (fun y=>[slT true 6 ActV.row y]) (fun y k=>marks 6 mkAct y.length k) (fun y k=>k + (6 * y.length:Nat)) l k hi',Option.getD_some,IntWalk.i64_in]
   repeat (first | refine ⟨by decide,?_⟩ | refine ⟨decide_eq_true hi',?_⟩ | refine back_bif (by simp -implicitDefEqProofs (maxSteps:=1000000) only [go_sem]) ?_)
   refine .of (c_l_markActS (l[i]) _ (Nat.le_trans (he) (by decide)) (by omega)) ?_
   simp -implicitDefEqProofs (maxSteps:=1000000) (disch:=omega) only [go_sem,storeAp,setCells,List.length_set,List.set_set,markL_len (fun y=>[slT true 6 ActV.row y]) (fun y k=>marks 6 mkAct y.length k) (fun y k=>k + (6 * y.length:Nat)) l k hi,List.getD_eq_getElem?_getD,markL_at (fun y=>[slT true 6 ActV.row y]) (fun y k=>marks 6 mkAct y.length k) (fun y k=>k + (6 * y.length:Nat)) l k hi',markL_reat (fun y=>[slT true 6 ActV.row y]) (fun y k=>marks 6 mkAct y.length k) (fun y k=>k + (6 * y.length:Nat)) l k hi',Option.getD_some,IntWalk.i64_in]
   repeat (first | refine ⟨by decide,?_⟩ | refine ⟨decide_eq_true hi',?_⟩ | refine back_bif (by simp -implicitDefEqProofs (maxSteps:=1000000) only [go_sem]) ?_)
   try simp -implicitDefEqProofs (maxSteps:=1000000) (disch:=omega) only [go_sem,storeAp,setCells,List.length_set,List.set_set,markL_len (fun y=>[slT true 6 ActV.row y]) (fun y k=>marks 6 mkAct y.length k) (fun y k=>k + (6 * y.length:Nat)) l k hi,List.getD_eq_getElem?_getD,markL_at (fun y=>[slT true 6 ActV.row y]) (fun y k=>marks 6 mkAct y.length k) (fun y k=>k + (6 * y.length:Nat)) l k hi',markL_reat (fun y=>[slT true 6 ActV.row y]) (fun y k=>marks 6 mkAct y.length k) (fun y k=>k + (6 * y.length:Nat)) l k hi',Option.getD_some,IntWalk.i64_in]
   repeat (first | refine ⟨by decide,?_⟩ | refine ⟨decide_eq_true hi',?_⟩ | refine back_bif (by simp -implicitDefEqProofs (maxSteps:=1000000) only [go_sem]) ?_)
   refine ⟨i + 1,?_,hi',by omega⟩
   rw [hnext,← hset]
   rfl
  ·have:i=l.length:=by simp only [decide_eq_false_iff_not] at h; omega
   subst this
   simp -implicitDefEqProofs (maxSteps:=1000000) only [go_sem,List.take_length,List.drop_length,List.map_nil,List.append_nil]
def x_l_heldActSS:FnX:=⟨21,[.tmp 4],
  .q [.i 4 0]
 (.seq (.q [.i 5 0]
 (.block 0 (.loop [0,1,5] (.seq (.q [.m 6 5,.m 7 0,.n 8 7,.b 9 .lss 6 8]
 (.cond 9 .skip (.exit 0)))
 (.seq (.block 1 (.q [.m 12 0,.m 13 5,.x 14 1 12 13,.l 15 14,.m 16 1,.c 17 54 [15,16],.m 1 17]
 (.q [.m 18 1,.B 19 .lss 18 0]
 (.c 19 (.q [.i 4 (-1)]
 .ret)))))
 (.reg [.m 10 5,.B 11 .add 10 1,.m 5 11]))))))
 (.norm [1] (.q [.m 20 1,.m 4 20]
 .ret)))⟩
theorem r_l_heldActSS {Te:TE} (c_l_heldActS:C_l_heldActS Te):C_l_heldActSS (RF Te x_l_heldActSS):=by
 intro l k hl hk hf
 refine run0 ?_
 have hl1:=hl.1
 simp -implicitDefEqProofs (maxSteps:=1000000) (disch:=omega) only [x_l_heldActSS,go_sem,IntWalk.i64_in]
 refine loop_of (σ:=Nat) (fun i=>⟨[(0,.one (.ro 1 ((markL (fun y k=>marks 6 mkAct y.length k) (fun y k=>k + (6 * y.length:Nat)) l k).map (fun y=>[slT false 6 ActV.row y])))),(1,.one (.pv (.int .i64 (farL (fun y k=>k + (6 * y.length:Nat)) (l.take i) k)))),(5,.one (.pv (.int .i64 i)))],[],[(0,[slT false 1 (fun y=>[slT false 6 ActV.row y]) (markL (fun y k=>marks 6 mkAct y.length k) (fun y k=>k + (6 * y.length:Nat)) l k)]),(1,[iT k])]⟩) (fun i=>i≤l.length) (fun i=>l.length - i) 0 ?_ (Nat.zero_le _) ?_
 ·simp -implicitDefEqProofs (maxSteps:=1000000) only [go_sem]; simp [farL]
 ·intro i hi
  simp -implicitDefEqProofs (maxSteps:=1000000) only [go_sem,markL_length]
  refine ⟨fun h=>?_,fun h=>?_⟩
  ·have hi':i < l.length:=by simp only [decide_eq_true_eq] at h; omega
   have hb:=farL_mid (f:=(fun y k=>k + (6 * y.length:Nat))) (p:=fun y=>y.length≤2 ^ 21) hl.2 monoActSS k hi'
   have he:=hl.2 _ (List.getElem_mem hi')
   have hm:=monoActSS _ he (farL (fun y k=>k + (6 * y.length:Nat)) (l.take i) k)
   have hget:=markL_get (fun y k=>marks 6 mkAct y.length k) (fun y k=>k + (6 * y.length:Nat)) l k hi'
   have hnext:=farL_take (fun y k=>k + (6 * y.length:Nat)) l k hi'
   generalize farL (fun y k=>k + (6 * y.length:Nat)) (l.take i) k=j at hb hm hget hnext ⊢
   replace hb:k≤j∧(j + (6 * l[i].length:Nat))≤farL (fun y k=>k + (6 * y.length:Nat)) l k:=hb
   try simp -implicitDefEqProofs (maxSteps:=1000000) (disch:=omega) only [go_sem,hget,IntWalk.i64_in,mkB,bne_self_eq_false,decide_true,Bool.not_true]
   repeat (refine ⟨by decide,?_⟩)
   refine .of (c_l_heldActS (l[i].length) _ (Nat.le_trans (he) (by decide)) (by omega)) ?_
   simp -implicitDefEqProofs (maxSteps:=1000000) (disch:=omega) only [go_sem,hget,IntWalk.i64_in,mkB,bne_self_eq_false,decide_true,Bool.not_true]
   refine ⟨fun q=>by simp only [decide_eq_true_eq] at q; omega,fun _=>?_⟩
   try simp -implicitDefEqProofs (maxSteps:=1000000) (disch:=omega) only [go_sem,hget,IntWalk.i64_in,mkB,bne_self_eq_false,decide_true,Bool.not_true]
   repeat (refine ⟨by decide,?_⟩)
   refine ⟨i + 1,?_,hi',by omega⟩
   rw [hnext]
   rfl
  ·have:i=l.length:=by simp only [decide_eq_false_iff_not] at h; omega
   subst this
   simp -implicitDefEqProofs (maxSteps:=1000000) only [go_sem,List.take_length]
def x_l_szDone:FnX:=⟨20,[.tmp 4],
  .q [.v 2 0,.i 4 0]
 (.q [.m 5 1,.f 6 2 2,.l 7 6,.op 8 (.slen (.t 7)),.b 9 .sub 5 8,.m 1 9]
 (.seq (.q [.m 10 1,.B 11 .lss 10 0]
 (.c 11 (.q [.i 4 (-1)]
 .ret)))
 (.q [.m 12 1,.f 13 2 3,.l 14 13,.op 15 (.slen (.t 14)),.b 16 .sub 12 15,.m 1 16]
 (.seq (.q [.m 17 1,.B 18 .lss 17 0]
 (.c 18 (.q [.i 4 (-1)]
 .ret)))
 (.q [.m 19 1,.m 4 19]
 .ret)))))⟩
theorem r_l_szDone {Te:TE}:C_l_szDone (RF Te x_l_szDone):=by
 intro x k hx hk
 refine run0 ?_
 obtain ⟨h0,h1⟩:=hx
 simp -implicitDefEqProofs (maxSteps:=1000000) (disch:=omega) only [x_l_szDone,go_sem,IntWalk.i64_in]
 refine ⟨fun q0=>?_,fun q0=>?_⟩
 ·simp only [decide_eq_true_eq] at q0
  simp only [szDone,szAll,if_pos q0]
 ·simp only [decide_eq_false_iff_not] at q0
  have k1:0≤(k - (x.Key.size:Nat))∧(k - (x.Key.size:Nat))≤2 ^ 48:=⟨by omega,Int.le_trans (Sane.sub _ _ hk.1) hk.2⟩
  try simp -implicitDefEqProofs (maxSteps:=1000000) (disch:=omega) only [go_sem,IntWalk.i64_in]
  refine ⟨fun q1=>?_,fun q1=>?_⟩
  ·simp only [decide_eq_true_eq] at q1
   simp only [szDone,szAll,if_neg q0,if_pos q1]
  ·simp only [decide_eq_false_iff_not] at q1
   have k2:0≤((k - (x.Key.size:Nat)) - (x.Text.size:Nat))∧((k - (x.Key.size:Nat)) - (x.Text.size:Nat))≤2 ^ 48:=⟨by omega,Int.le_trans (Sane.sub _ _ k1.1) k1.2⟩
   simp only [szDone,szAll,if_neg q0,if_neg q1]
def x_l_toDone_3:XCode:=.q [.f 16 1 4,.l 17 16,.f 18 3 4,.s 100005 1 18 17]
 (.q [.L 19 5 3,.s 100006 5 2 19]
 .ret)
def x_l_toDone_2:XCode:=.q [.f 10 1 2,.l 11 10,.f 12 3 2,.s 100003 1 12 11]
 (.q [.f 13 1 3,.l 14 13,.f 15 3 3,.s 100004 1 15 14]
 x_l_toDone_3)
def x_l_toDone_1:XCode:=.q [.f 4 1 0,.l 5 4,.f 6 3 0,.s 100001 1 6 5]
 (.q [.f 7 1 1,.l 8 7,.f 9 3 1,.s 100002 1 9 8]
 x_l_toDone_2)
def x_l_toDone:FnX:=⟨20,[.cell 2 (some 5)],
  .q [.v 1 0,.op 2 (.alloc [.i 0,.i 0,.e,.e,.i 0])]
 (.q [.op 3 (.alloc [.i 0,.i 0,.e,.e,.i 0])]
 x_l_toDone_1)⟩
theorem r_l_toDone {Te:TE}:C_l_toDone (RF Te x_l_toDone):=by
 intro x
 refine run0 ?_
 simp -implicitDefEqProofs (maxSteps:=1000000) only [x_l_toDone,go_sem]
 simp -implicitDefEqProofs (maxSteps:=1000000) only [x_l_toDone_1,go_sem]
 simp -implicitDefEqProofs (maxSteps:=1000000) only [x_l_toDone_2,go_sem]
 simp -implicitDefEqProofs (maxSteps:=1000000) only [x_l_toDone_3,go_sem]
def x_l_eqDone:FnX:=⟨30,[.tmp 4],
  .q [.v 2 0,.v 3 1,.F 4]
 (.seq (.q [.f 5 2 0,.l 6 5,.f 7 3 0,.l 8 7,.b 9 .neq 6 8]
 (.c 9 (.q [.F 4]
 .ret)))
 (.seq (.q [.f 10 2 1,.l 11 10,.f 12 3 1,.l 13 12,.b 14 .neq 11 13]
 (.c 14 (.q [.F 4]
 .ret)))
 (.seq (.q [.f 15 2 2,.l 16 15,.f 17 3 2,.l 18 17,.b 19 .neq 16 18]
 (.c 19 (.q [.F 4]
 .ret)))
 (.seq (.q [.f 20 2 3,.l 21 20,.f 22 3 3,.l 23 22,.b 24 .neq 21 23]
 (.c 24 (.q [.F 4]
 .ret)))
 (.seq (.q [.f 25 2 4,.l 26 25,.f 27 3 4,.l 28 27,.b 29 .neq 26 28]
 (.c 29 (.q [.F 4]
 .ret)))
 (.q [.T 4]
 .ret))))))⟩
theorem r_l_eqDone {Te:TE}:C_l_eqDone (RF Te x_l_eqDone):=by
 intro x y
 refine run0 ?_
 have key:(x=y)↔x.Seq=y.Seq∧x.Kind=y.Kind∧x.Key=y.Key∧x.Text=y.Text∧x.Code=y.Code:=by cases x; cases y; simp
 simp only [key]
 clear key
 simp -implicitDefEqProofs (maxSteps:=1000000) only [x_l_eqDone,go_sem]
 refine ⟨fun q=>?_,fun q=>?_⟩
 ·have n0:¬ (x.Seq=y.Seq):=by simpa using q
  simp only [n0,false_and,and_false,true_and,decide_false]
 have e0:x.Seq=y.Seq:=by simpa using q
 clear q
 refine ⟨fun q=>?_,fun q=>?_⟩
 ·have n1:¬ (x.Kind=y.Kind):=by simpa using q
  simp only [e0,n1,false_and,and_false,true_and,decide_false]
 have e1:x.Kind=y.Kind:=by simpa using q
 clear q
 refine ⟨fun q=>?_,fun q=>?_⟩
 ·have n2:¬ (x.Key=y.Key):=by simpa using q
  simp only [e0,e1,n2,false_and,and_false,true_and,decide_false]
 have e2:x.Key=y.Key:=by simpa using q
 clear q
 refine ⟨fun q=>?_,fun q=>?_⟩
 ·have n3:¬ (x.Text=y.Text):=by simpa using q
  simp only [e0,e1,e2,n3,false_and,and_false,true_and,decide_false]
 have e3:x.Text=y.Text:=by simpa using q
 clear q
 refine ⟨fun q=>?_,fun q=>?_⟩
 ·have n4:¬ (x.Code=y.Code):=by simpa using q
  simp only [e0,e1,e2,e3,n4,false_and,and_false,true_and,decide_false]
 have e4:x.Code=y.Code:=by simpa using q
 clear q
 simp only [e0,e1,e2,e3,e4,true_and,and_true,decide_true]
def x_l_szDoneS:FnX:=⟨27,[.tmp 4],
  .q [.i 4 0]
 (.q [.m 6 1,.m 7 0,.n 8 7,.b 9 .sub 6 8,.m 1 9]
 (.seq (.q [.m 10 1,.B 11 .lss 10 0]
 (.c 11 (.q [.i 4 (-1)]
 .ret)))
 (.seq (.q [.i 5 0]
 (.block 0 (.loop [0,1,5] (.seq (.q [.m 12 5,.m 13 0,.n 14 13,.b 15 .lss 12 14]
 (.cond 15 .skip (.exit 0)))
 (.seq (.block 1 (.q [.m 18 0,.m 19 5,.x 20 5 18 19,.L 21 5 20,.m 22 1,.c 23 343 [21,22],.m 1 23]
 (.q [.m 24 1,.B 25 .lss 24 0]
 (.c 25 (.q [.i 4 (-1)]
 .ret)))))
 (.reg [.m 16 5,.B 17 .add 16 1,.m 5 17]))))))
 (.norm [1] (.q [.m 26 1,.m 4 26]
 .ret)))))⟩
theorem r_l_szDoneS {Te:TE} (c_l_szDone:C_l_szDone Te):C_l_szDoneS (RF Te x_l_szDoneS):=by
 intro l k hk hl hs
 refine run0 ?_
 simp -implicitDefEqProofs (maxSteps:=1000000) (disch:=omega) only [x_l_szDoneS,go_sem,IntWalk.i64_in]
 refine ⟨fun h=>?_,fun h=>?_⟩
 ·simp only [decide_eq_true_eq] at h
  simp only [szSl,szAll,if_pos h]
 ·simp only [decide_eq_false_iff_not] at h
  refine loop_of (σ:=Nat×Int) (fun x=>⟨[(0,.one (.ro 5 (l.map DoneV.row))),(1,.one (.pv (.int .i64 x.2))),(5,.one (.pv (.int .i64 x.1)))],[],[(0,[slT false 5 DoneV.row l]),(1,[iT k])]⟩) (fun x=>x.1≤l.length∧0≤x.2∧x.2≤k∧szSl szDone l k=szAll ((l.drop x.1).map szDone) x.2) (fun x=>l.length - x.1) (0,k - l.length) ?_ ⟨Nat.zero_le _,by omega,by omega,by simp only [szSl,szAll,if_neg h,List.drop_zero]⟩ ?_
  ·simp -implicitDefEqProofs (maxSteps:=1000000) only [go_sem]; rfl
  ·rintro ⟨i,c⟩ ⟨hi,h0,h1,he⟩
   simp only at hi h0 h1 he
   simp -implicitDefEqProofs (maxSteps:=1000000) only [go_sem]
   refine ⟨fun h=>?_,fun h=>?_⟩
   ·have hi':i < l.length:=by simp only [decide_eq_true_eq] at h; omega
    have hsz:=hs l[i] (List.getElem_mem hi')
    rw [List.drop_eq_getElem_cons hi'] at he
    simp -implicitDefEqProofs (maxSteps:=1000000) (disch:=omega) only [go_sem,List.getElem?_eq_getElem hi',IntWalk.i64_in]
    refine .of (c_l_szDone _ _ hsz ⟨h0,by omega⟩) ?_
    simp -implicitDefEqProofs (maxSteps:=1000000) only [go_sem]
    refine ⟨fun h2=>?_,fun h2=>?_⟩
    ·simp only [decide_eq_true_eq] at h2
     rw [he]
     simp only [List.map_cons,szAll,if_pos h2]
    ·simp only [decide_eq_false_iff_not] at h2
     refine ⟨(i + 1,szDone l[i] c),by rw [IntWalk.i64_in _ (by omega)]; rfl,⟨hi',by omega,Int.le_trans (szDone_sane _ _ h0) h1,?_⟩,by simp only; omega⟩
     rw [he]
     simp only [List.map_cons,szAll,if_neg h2]
   ·have hle:l.length≤i:=by simp only [decide_eq_false_iff_not] at h; omega
    rw [List.drop_of_length_le hle] at he
    simp only [szAll,List.map_nil] at he
    rw [he]
def x_i_isUp:FnX:=⟨12,[.tmp 2],
  .q [.v 1 0,.F 2]
 (.q [.L 3 10 1,.c 4 23 [3],.m 5 4,.y 5 (.f 6 1 0),.y 5 (.f 7 6 0),.y 5 (.f 8 7 3),.y 5 (.l 9 8),.y 5 (.N 10 9),.a 11 5 10,.m 2 11]
 .ret)⟩
theorem r_i_isUp {Te:TE} (c_i_NodeOk:C_i_NodeOk Te):C_i_isUp (RF Te x_i_isUp):=by
 intro n h
 refine X0 x_i_isUp.eq_1 ?_
 refine C0 (c_i_NodeOk n h) ?_
 cases g:n.ok
 ·have e:n.up=false:=by rw [NodeV.up,g]; rfl
  exact F1 e
 ·have e:n.up = !n.S.D.Down:=by rw [NodeV.up,g]; rfl
  exact F1 e
def x_s_l15Up:FnX:=⟨12,[.tmp 2],
  .q [.v 1 0,.F 2]
 (.q [.L 3 10 1,.c 4 43 [3],.m 5 4,.y 5 (.f 6 1 0),.y 5 (.f 7 6 0),.y 5 (.f 8 7 3),.y 5 (.l 9 8),.y 5 (.N 10 9),.a 11 5 10,.m 2 11]
 .ret)⟩
theorem r_s_l15Up {Te:TE} (c_s_NodeOk:C_s_NodeOk Te):C_s_l15Up (RF Te x_s_l15Up):=by
 intro n h
 refine X0 x_s_l15Up.eq_1 ?_
 refine C0 (c_s_NodeOk n h) ?_
 cases g:n.ok
 ·have e:n.up=false:=by rw [NodeV.up,g]; rfl
  exact F1 e
 ·have e:n.up = !n.S.D.Down:=by rw [NodeV.up,g]; rfl
  exact F1 e
def x_i_RowText:FnX:=⟨18,[.tmp 2,.tmp 3],
  .q [.v 1 0,.op 2 (.mv (.k (.one (.pv (.string ⟨#[]⟩))))),.F 3]
 (.seq (.q [.f 4 1 5,.l 5 4,.B 6 .and 5 2,.B 7 .neq 6 0]
 (.c 7 (.q [.f 8 1 3,.L 9 2 8,.c 10 177 [9],.e 11 10 0,.e 12 10 1,.m 2 11,.m 3 12]
 .ret)))
 (.q [.f 13 1 1,.L 14 2 13,.c 15 177 [14],.e 16 15 0,.e 17 15 1,.m 2 16,.m 3 17]
 .ret))⟩
theorem r_i_RowText {Te:TE} (c_i_CellText:C_i_CellText Te):C_i_RowText (RF Te x_i_RowText):=by
 intro r h
 have e:=and2_ne _ h
 refine X1 x_i_RowText.eq_1 e ?_
 by_cases g:r.Has=1
 ·have e2:r.rtext=r.Old.text:=if_pos g
  have e3:decide (r.Has≠1)=false:=by simp [g]
  refine G1 e3 ?_
  exact D1 (c_i_CellText r.Old) e2
 ·have e2:r.rtext=r.New.text:=if_neg g
  have e3:decide (r.Has≠1)=true:=by simp [g]
  refine G1 e3 ?_
  exact D1 (c_i_CellText r.New) e2
def x_s_RowText:FnX:=⟨16,[.tmp 2,.tmp 3],
  .q [.v 1 0,.op 2 (.mv (.k (.one (.pv (.string ⟨#[]⟩))))),.F 3]
 (.seq (.q [.L 4 7 1,.c 5 196 [4]]
 (.c 5 (.q [.f 6 1 3,.L 7 2 6,.c 8 197 [7],.e 9 8 0,.e 10 8 1,.m 2 9,.m 3 10]
 .ret)))
 (.q [.f 11 1 1,.L 12 2 11,.c 13 197 [12],.e 14 13 0,.e 15 13 1,.m 2 14,.m 3 15]
 .ret))⟩
theorem r_s_RowText {Te:TE} (c_s_l9New:C_s_l9New Te) (c_s_CellText:C_s_CellText Te):C_s_RowText (RF Te x_s_RowText):=by
 intro r h
 refine X0 x_s_RowText.eq_1 ?_
 refine C0 (c_s_l9New r h) ?_
 by_cases g:r.Has=1
 ·have e2:r.rtext=r.Old.text:=if_pos g
  have e3:decide (r.Has≠1)=false:=by simp [g]
  refine G1 e3 ?_
  exact D1 (c_s_CellText r.Old) e2
 ·have e2:r.rtext=r.New.text:=if_neg g
  have e3:decide (r.Has≠1)=true:=by simp [g]
  refine G1 e3 ?_
  exact D1 (c_s_CellText r.New) e2
def x_i_RowAt1:FnX:=⟨8,[.tmp 3],
  .q [.v 2 0,.F 3]
 (.q [.f 4 2 0,.l 5 4,.l 6 1,.b 7 .eql 5 6,.m 3 7]
 .ret)⟩
theorem r_i_RowAt1 {Te:TE}:C_i_RowAt1 (RF Te x_i_RowAt1):=by
 intro r key
 refine run0 ?_
 simp -implicitDefEqProofs (maxSteps:=1000000) only [x_i_RowAt1,go_sem]
 repeat refine ⟨sc,?_⟩
 try exact sf
def x_z_IndexFuncimplRowAt1:FnX:=⟨19,[.tmp 4],
  .q [.i 4 0]
 (.seq (.q [.m 6 0,.n 7 6,.i 8 0]
 (.block 0 (.loop [0,1,7,8] (.q [.b 9 .lss 8 7]
 (.seq (.cond 9 .skip (.exit 0))
 (.seq (.block 1 (.q [.m 10 8,.m 5 10]
 (.q [.m 11 1,.m 12 0,.m 13 5,.x 14 7 12 13,.L 15 7 14,.op 16 (.dcall 176 [0,3] [(.t 15)] (.t 11))]
 (.c 16 (.q [.m 17 5,.m 4 17]
 .ret)))))
 (.reg [.B 18 .add 8 1,.m 8 18])))))))
 (.norm [] (.q [.i 4 (-1)]
 .ret)))⟩
theorem r_z_IndexFuncimplRowAt1 {Te:TE} (c_i_RowAt1:C_i_RowAt1 Te):C_z_IndexFuncimplRowAt1 (RFV Te 176 x_z_IndexFuncimplRowAt1):=by
 intro l key hl
 refine run0V ?_
 simp -implicitDefEqProofs (maxSteps:=1000000) only [x_z_IndexFuncimplRowAt1,go_sem]
 repeat refine ⟨sc,?_⟩
 try exact sf
 refine loop_of (σ:=Nat) (fun i=>⟨[(0,.one (.ro 7 (l.map (RowV.enc false)))),(1,.fn 176 1 0),(7,.one (.pv (.int .i64 l.length))),(8,.one (.pv (.int .i64 i)))],[(1,[.pv (.string key)])],[(0,[slT false 7 (RowV.enc false) l]),(1,[sT key])]⟩) (fun i=>i≤l.length∧∀ j (hj:j < l.length),j < i→decide (l[j].Key=key)=false) (fun i=>l.length - i) 0 ?_ ⟨Nat.zero_le _,fun j _ h=>absurd h (Nat.not_lt_zero _)⟩ ?_
 ·simp -implicitDefEqProofs (maxSteps:=1000000) only [go_sem]
  try rfl
 ·rintro i ⟨hi,hp⟩
  cases q:decide ((i:Int) < (l.length:Int))
  ·have e:=rowAt_none (i:=i) (by simp only [decide_eq_false_iff_not] at q; omega) hp
   exact F2 q e
  ·have k1:i < l.length:=by simp only [decide_eq_true_eq] at q; omega
   refine G2 q (List.getElem?_eq_getElem k1) ?_
   refine C0 (c_i_RowAt1 l[i] key) ?_
   cases g:decide (l[i].Key=key)
   ·refine G1 g ?_
    refine ⟨i + 1,?_,⟨k1,rowAt_step k1 hp g⟩,by omega⟩
    rw [IntWalk.i64_in _ (by omega)]
    rfl
   ·have e:=(rowAt_hit k1 hp g).1
    exact F2 g e
def x_i_RowAt:FnX:=⟨9,[.tmp 4],
  .q [.v 2 0,.v 3 1,.i 4 0]
 (.q [.f 5 2 0,.l 6 5,.op 7 (.clos 176 (.t 3)),.op 8 (.vcall 175 176 [0,3] [(.t 6)] (.t 7)),.m 4 8]
 .ret)⟩
theorem r_i_RowAt {Te:TE} (c_z_IndexFuncimplRowAt1:C_z_IndexFuncimplRowAt1 Te):C_i_RowAt (RF Te x_i_RowAt):=by
 intro t key hl
 refine X0 x_i_RowAt.eq_1 ?_
 exact D0 (c_z_IndexFuncimplRowAt1 t.Rows key hl)
def x_s_RowAt:FnX:=⟨22,[.tmp 4],
  .q [.v 2 0,.i 4 0]
 (.seq (.q [.i 5 0]
 (.block 0 (.loop [1,2,5] (.seq (.q [.m 6 5,.f 7 2 0,.l 8 7,.n 9 8,.b 10 .lss 6 9]
 (.cond 10 .skip (.exit 0)))
 (.seq (.block 1 (.q [.f 13 2 0,.l 14 13,.m 15 5,.x 16 7 14 15,.f 17 16 0,.l 18 17,.m 19 1,.b 20 .eql 18 19]
 (.c 20 (.q [.m 21 5,.m 4 21]
 .ret))))
 (.reg [.m 11 5,.B 12 .add 11 1,.m 5 12]))))))
 (.norm [] (.q [.i 4 (-1)]
 .ret)))⟩
theorem r_s_RowAt {Te:TE}:C_s_RowAt (RF Te x_s_RowAt):=by
 intro t key hl
 refine X0 x_s_RowAt.eq_1 ?_
 refine loop_of (σ:=Nat) (fun i=>⟨[(1,.one (.pv (.string key))),(2,.bp 2 0),(5,.one (.pv (.int .i64 i)))],[(2,[.ro 7 (t.Rows.map (RowV.enc false)),.pv (.int .i64 t.Phase),.ro 3 (t.Marks.map MarkV.row)])],[(0,t.enc false),(1,[sT key])]⟩) (fun i=>i≤t.Rows.length∧∀ j (hj:j < t.Rows.length),j < i→decide (t.Rows[j].Key=key)=false) (fun i=>t.Rows.length - i) 0 ?_ ⟨Nat.zero_le _,fun j _ h=>absurd h (Nat.not_lt_zero _)⟩ ?_
 ·simp -implicitDefEqProofs (maxSteps:=1000000) only [go_sem]
  try rfl
 ·rintro i ⟨hi,hp⟩
  cases q:decide ((i:Int) < (t.Rows.length:Int))
  ·have e:=rowAt_none (i:=i) (by simp only [decide_eq_false_iff_not] at q; omega) hp
   exact F2 q e
  ·have k1:i < t.Rows.length:=by simp only [decide_eq_true_eq] at q; omega
   cases g:decide (t.Rows[i].Key=key)
   ·refine G3 q (List.getElem?_eq_getElem k1) g ?_
    refine ⟨i + 1,?_,⟨k1,rowAt_step k1 hp g⟩,by omega⟩
    rw [IntWalk.i64_in _ (by omega)]
    rfl
   ·have e:=(rowAt_hit k1 hp g).1
    exact F4 q (List.getElem?_eq_getElem k1) g e
def x_i_NodeGet:FnX:=⟨33,[.tmp 4,.tmp 5],
  .q [.v 2 0,.op 4 (.mv (.k (.one (.pv (.string ⟨#[]⟩))))),.i 5 0]
 (.seq (.q [.L 9 10 2,.c 10 82 [9],.N 11 10]
 (.c 11 (.q [.op 4 (.mv (.k (.one (.pv (.string ⟨#[]⟩))))),.i 5 1]
 .ret)))
 (.q [.f 12 2 0,.f 13 12 4,.L 14 3 13,.m 15 1,.c 16 87 [14,15],.m 6 16]
 (.seq (.q [.m 17 6,.B 18 .lss 17 0]
 (.c 18 (.q [.op 4 (.mv (.k (.one (.pv (.string ⟨#[]⟩))))),.i 5 2]
 .ret)))
 (.q [.f 20 2 0,.f 21 20 4,.f 22 21 0,.l 23 22,.m 24 6,.x 25 7 23 24,.L 26 7 25,.c 27 88 [26],.m 19 27,.e 28 19 0,.e 29 19 1,.m 7 28,.m 8 29]
 (.seq (.q [.m 30 8,.N 31 30]
 (.c 31 (.q [.op 4 (.mv (.k (.one (.pv (.string ⟨#[]⟩))))),.i 5 4]
 .ret)))
 (.q [.m 32 7,.m 4 32,.i 5 0]
 .ret))))))⟩
theorem r_i_NodeGet {Te:TE} (c_i_isUp:C_i_isUp Te) (c_i_RowAt:C_i_RowAt Te) (c_i_RowText:C_i_RowText Te):C_i_NodeGet (RF Te x_i_NodeGet):=by
 intro n key h
 refine X0 x_i_NodeGet.eq_1 ?_
 refine C0 (c_i_isUp n h) ?_
 cases g:n.up
 ·have e:n.get key=(⟨#[]⟩,1):=by rw [NodeV.get,g]; rfl
  exact F1 e
 refine G0 ?_
 refine C0 (c_i_RowAt n.S.T key h.2.1.1) ?_
 rcases rowAt_cases n.S.T.Rows key with ⟨e1,e2⟩ | ⟨hk,e1,e2⟩
 ·have e:n.get key=(⟨#[]⟩,2):=by rw [NodeV.get,g,e2]; rfl
  exact F2 e1 e
 have hr:=rowOk_13 (TabV.ok_row (NodeV.up_tab g) hk)
 have c1:decide ((rowIx n.S.T.Rows key:Int) < 0)=false:=decide_eq_false (by omega)
 refine G3 e1 e2 c1 ?_
 refine C0 (c_i_RowText n.S.T.Rows[rowIx n.S.T.Rows key] hr) ?_
 cases g2:n.S.T.Rows[rowIx n.S.T.Rows key].rtext.2
 ·have e:n.get key=(⟨#[]⟩,4):=by rw [NodeV.get,g,e2]; simp only [if_true,g2]; rfl
  exact F2 e g2
 ·have e:n.get key=(n.S.T.Rows[rowIx n.S.T.Rows key].rtext.1,0):=by rw [NodeV.get,g,e2]; simp only [if_true,g2]
  exact F2 e g2
def x_l_toDoneS:FnX:=⟨23,[.tmp 2],
  .q [.op 2 (.mv (.k (.one (.nils 5))))]
 (.q [.m 5 0,.n 6 5,.op 7 (.mks 5 56 [.pv (.int .i64 0),.pv (.int .i64 0),.pv (.string ⟨#[]⟩),.pv (.string ⟨#[]⟩),.pv (.int .i64 0)] (.t 6)),.m 3 7]
 (.seq (.q [.i 4 0]
 (.block 0 (.loop [0,3,4] (.seq (.q [.m 8 4,.m 9 0,.n 10 9,.b 11 .lss 8 10]
 (.cond 11 .skip (.exit 0)))
 (.seq (.block 1 (.reg [.m 14 3,.m 15 4,.m 16 0,.m 17 4,.x 18 5 16 17,.L 19 5 18,.c 20 346 [19],.x 21 5 14 15,.s 100001 5 21 20]))
 (.reg [.m 12 4,.B 13 .add 12 1,.m 4 13]))))))
 (.norm [3] (.q [.m 22 3,.m 2 22]
 .ret))))⟩
theorem r_l_toDoneS {Te:TE} (c_l_toDone:C_l_toDone Te):C_l_toDoneS (RF Te x_l_toDoneS):=by
 intro l hl
 refine run0 ?_
 simp -implicitDefEqProofs (maxSteps:=1000000) (disch:=omega) only [x_l_toDoneS,go_sem,IntWalk.i64_in]
 refine ⟨⟨by simp only [decide_eq_true_eq]; omega,by simp only [decide_eq_true_eq]; omega⟩,?_⟩
 refine loop_of (σ:=Nat) (fun i=>⟨[(0,.one (.ro 5 (l.map DoneV.row))),(3,.one (.rf 24 0 [] 5 0 l.length)),(4,.one (.pv (.int .i64 i)))],[],
  [(0,[slT false 5 DoneV.row l]),(24,[.sl true 5 () ((l.take i).map DoneV.row++List.replicate (l.length - i) [.pv (.int .i64 0),.pv (.int .i64 0),.pv (.string ⟨#[]⟩),.pv (.string ⟨#[]⟩),.pv (.int .i64 0)])])]⟩) (fun i=>i≤l.length) (fun i=>l.length - i) 0 ?_ (Nat.zero_le _) ?_
 ·simp -implicitDefEqProofs (maxSteps:=1000000) only [go_sem]; rfl
 ·intro i hi
  simp -implicitDefEqProofs (maxSteps:=1000000) only [go_sem]
  refine ⟨fun h=>?_,fun h=>?_⟩
  ·have hi':i < l.length:=by simp only [decide_eq_true_eq] at h; omega
   simp -implicitDefEqProofs (maxSteps:=1000000) only [go_sem,List.getElem?_eq_getElem hi',fill_len DoneV.row l [.pv (.int .i64 0),.pv (.int .i64 0),.pv (.string ⟨#[]⟩),.pv (.string ⟨#[]⟩),.pv (.int .i64 0)] hi,storeAp,setCells,List.getD_eq_getElem?_getD,fill_get DoneV.row l [.pv (.int .i64 0),.pv (.int .i64 0),.pv (.string ⟨#[]⟩),.pv (.string ⟨#[]⟩),.pv (.int .i64 0)] hi']
   refine .of (c_l_toDone _) ?_
   simp -implicitDefEqProofs (maxSteps:=1000000) only [go_sem,fill_len DoneV.row l [.pv (.int .i64 0),.pv (.int .i64 0),.pv (.string ⟨#[]⟩),.pv (.string ⟨#[]⟩),.pv (.int .i64 0)] hi,storeAp,setCells,List.getD_eq_getElem?_getD,fill_get DoneV.row l [.pv (.int .i64 0),.pv (.int .i64 0),.pv (.string ⟨#[]⟩),.pv (.string ⟨#[]⟩),.pv (.int .i64 0)] hi']
   repeat (first | refine ⟨by decide,?_⟩ | refine ⟨by simpa using hi',?_⟩)
   refine ⟨i + 1,?_,hi',by omega⟩
   rw [← fill_set DoneV.row l [.pv (.int .i64 0),.pv (.int .i64 0),.pv (.string ⟨#[]⟩),.pv (.string ⟨#[]⟩),.pv (.int .i64 0)] hi',IntWalk.i64_in _ (by omega)]
   rfl
  ·have:i=l.length:=by simp only [decide_eq_false_iff_not] at h; omega
   subst this
   simp -implicitDefEqProofs (maxSteps:=1000000) only [go_sem,fill_len DoneV.row l [.pv (.int .i64 0),.pv (.int .i64 0),.pv (.string ⟨#[]⟩),.pv (.string ⟨#[]⟩),.pv (.int .i64 0)] hi,fill_end]
   refine ⟨by simp,?_⟩
   simp [take_map]
def x_l_eqDoneS:FnX:=⟨27,[.tmp 4],
  .q [.F 4]
 (.seq (.q [.m 6 0,.n 7 6,.m 8 1,.n 9 8,.b 10 .neq 7 9]
 (.c 10 (.q [.F 4]
 .ret)))
 (.seq (.q [.i 5 0]
 (.block 0 (.loop [0,1,5] (.seq (.q [.m 11 5,.m 12 0,.n 13 12,.b 14 .lss 11 13]
 (.cond 14 .skip (.exit 0)))
 (.seq (.block 1 (.seq (.draw [.m 17 0,.m 18 5,.x 19 5 17 18,.L 20 5 19,.m 21 1,.m 22 5,.x 23 5 21 22,.L 24 5 23,.c 25 349 [20,24],.N 26 25] [[],[],[0,1],[2],[],[],[4,5],[6],[3,7],[8]])
 (.c 26 (.q [.F 4]
 .ret))))
 (.reg [.m 15 5,.B 16 .add 15 1,.m 5 16]))))))
 (.norm [] (.q [.T 4]
 .ret))))⟩
theorem r_l_eqDoneS {Te:TE} (c_l_eqDone:C_l_eqDone Te):C_l_eqDoneS (RF Te x_l_eqDoneS):=by
 intro l m hl
 refine run0 ?_
 simp -implicitDefEqProofs (maxSteps:=1000000) (disch:=omega) only [x_l_eqDoneS,go_sem,IntWalk.i64_in]
 refine ⟨fun h=>?_,fun h=>?_⟩
 ·have:l≠m:=fun e=>by simp [e] at h
  simp [this]
 ·have hlen:l.length=m.length:=by simp at h; omega
  refine loop_of (σ:=Nat) (fun i=>⟨[(0,.one (.ro 5 (l.map DoneV.row))),(1,.one (.ro 5 (m.map DoneV.row))),(5,.one (.pv (.int .i64 i)))],[],[(0,[slT false 5 DoneV.row l]),(1,[slT false 5 DoneV.row m])]⟩) (fun i=>i≤l.length∧l.take i=m.take i) (fun i=>l.length - i) 0 ?_ ⟨Nat.zero_le _,by simp⟩ ?_
  ·simp -implicitDefEqProofs (maxSteps:=1000000) only [go_sem]; rfl
  ·intro i ⟨hi,hs⟩
   simp -implicitDefEqProofs (maxSteps:=1000000) only [go_sem]
   refine ⟨fun h=>?_,fun h=>?_⟩
   ·have hi':i < l.length:=by simp only [decide_eq_true_eq] at h; omega
    have hj':i < m.length:=by omega
    simp -implicitDefEqProofs (maxSteps:=1000000) only [go_sem,List.getElem?_eq_getElem hi',List.getElem?_eq_getElem hj']
    refine .of (c_l_eqDone _ _) ?_
    simp -implicitDefEqProofs (maxSteps:=1000000) only [go_sem]
    refine ⟨by decide,fun h2=>?_,fun h2=>?_⟩
    ·have:l≠m:=fun e=>by subst e; simp at h2
     simp [this]
    ·refine ⟨i + 1,by rw [IntWalk.i64_in _ (by omega)]; rfl,⟨hi',same_step hi' hj' hs ?_⟩,by omega⟩
     simpa using h2
   ·have hle:l.length≤i:=by simp only [decide_eq_false_iff_not] at h; omega
    have:l=m:=same_end hle (by omega) hs
    simp [this]
def x_i_DevOk:FnX:=⟨57,[.tmp 2],
  .q [.v 1 0,.F 2]
 (.seq (.q [.f 7 1 0,.l 8 7,.n 9 8,.op 10 (.call 90 [0,0,0] [(.t 9),(.i 1),(.i 64)]),.N 11 10,.m 12 11,.z 12 (.f 13 1 1),.z 12 (.l 14 13),.z 12 (.n 15 14),.z 12 (.B 16 .gtr 15 40),.r 17 12 16,.m 18 17,.z 18 (.f 19 1 2),.z 18 (.l 20 19),.z 18 (.op 21 (.call 90 [0,0,0] [(.t 20),(.i (-1)),(.i 1000)])),.z 18 (.N 22 21),.r 23 18 22]
 (.c 23 (.q [.F 2]
 .ret)))
 (.seq (.q [.f 24 1 0,.l 25 24,.n 26 25,.i 27 0]
 (.block 0 (.loop [1,25,26,27] (.q [.b 28 .lss 27 26]
 (.seq (.cond 28 .skip (.exit 0))
 (.seq (.block 1 (.q [.x 29 1 25 27,.l 30 29,.m 4 30]
 (.q [.m 31 4,.n 32 31,.B 33 .gtr 32 120]
 (.c 33 (.q [.F 2]
 .ret)))))
 (.reg [.B 34 .add 27 1,.m 27 34])))))))
 (.norm [1] (.seq (.q [.f 35 1 1,.l 36 35,.n 37 36,.i 38 0]
 (.block 2 (.loop [1,36,37,38] (.q [.b 39 .lss 38 37]
 (.seq (.cond 39 .skip (.exit 2))
 (.seq (.block 3 (.q [.x 40 2 36 38,.L 41 2 40,.op 6 (.alloc [.i 0,.nils 1]),.s 100001 2 6 41]
 (.q [.f 42 6 0,.l 43 42,.f 44 1 0,.l 45 44,.n 46 45,.B 47 .sub 46 1,.op 48 (.call 90 [0,0,0] [(.t 43),(.i 0),(.t 47)]),.N 49 48,.m 50 49,.z 50 (.f 51 6 1),.z 50 (.l 52 51),.z 50 (.n 53 52),.z 50 (.B 54 .gtr 53 120),.r 55 50 54]
 (.c 55 (.q [.F 2]
 .ret)))))
 (.reg [.B 56 .add 38 1,.m 38 56])))))))
 (.norm [] (.q [.T 2]
 .ret))))))⟩
theorem r_i_DevOk {Te:TE} (c_i_within:C_i_within Te):C_i_DevOk (RF Te x_i_DevOk):=by
 intro d h
 obtain ⟨⟨hl,hS⟩,hl2,hC⟩:=h
 have ws:IntKind.i64.wrap ((d.Secs.length:Int) - 1)=(d.Secs.length:Int) - 1:=IntWalk.i64_in _ (by omega)
 refine X0 x_i_DevOk.eq_1 ?_
 refine C0 (c_i_within _ _ _) ?_
 cases g1:win (d.Secs.length:Int) 1 64
 ·have e:d.ok=false:=by simp only [DevV.ok,g1,Bool.false_and]
  exact F1 e
 cases g2:decide ((d.Cache.length:Int) > 40)
 ·have g2':decide ((d.Cache.length:Int)≤40)=true:=by rw [gt_le] at g2; simpa using g2
  refine G1 g2 ?_
  refine C0 (c_i_within _ _ _) ?_
  cases g3:win d.Fuse (-1) 1000
  ·have e:d.ok=false:=by simp only [DevV.ok,g3,Bool.and_false,Bool.false_and]
   exact F1 e
  simp -implicitDefEqProofs (maxSteps:=1000000) only [go_sem,true_implies,false_implies,true_and]
  refine loop_of (σ:=Nat) (fun i=>⟨[(1,.bp 1 0),(25,.one (.ro 1 (d.Secs.map (fun y=>[slT false 1 uR y])))),(26,.one (.pv (.int .i64 d.Secs.length))),(27,.one (.pv (.int .i64 i)))],[(1,[.ro 1 (d.Secs.map (fun y=>[slT false 1 uR y])),.ro 2 (d.Cache.map (WrV.enc false)),.pv (.int .i64 d.Fuse),.pv (.bool d.Down)])],[(0,d.enc false)]⟩) (fun i=>i≤d.Secs.length∧(d.Secs.take i).all (secGood)=true) (fun i=>d.Secs.length - i) 0 ?_ ⟨Nat.zero_le _,rfl⟩ ?_
  ·simp -implicitDefEqProofs (maxSteps:=1000000) only [go_sem]
   try rfl
  ·rintro i ⟨hi,hp⟩
   cases q:decide ((i:Int) < (d.Secs.length:Int))
   ·have eS:=all_end (p:=secGood) (show d.Secs.length≤i by simp only [decide_eq_false_iff_not] at q; omega) hp
    refine G1 q ?_
    refine loop_of (σ:=Nat) (fun i=>⟨[(1,.bp 1 0),(36,.one (.ro 2 (d.Cache.map (WrV.enc false)))),(37,.one (.pv (.int .i64 d.Cache.length))),(38,.one (.pv (.int .i64 i)))],[(1,[.ro 1 (d.Secs.map (fun y=>[slT false 1 uR y])),.ro 2 (d.Cache.map (WrV.enc false)),.pv (.int .i64 d.Fuse),.pv (.bool d.Down)])],[(0,d.enc false)]⟩) (fun i=>i≤d.Cache.length∧(d.Cache.take i).all (wrGood d.Secs.length)=true) (fun i=>d.Cache.length - i) 0 ?_ ⟨Nat.zero_le _,rfl⟩ ?_
    ·simp -implicitDefEqProofs (maxSteps:=1000000) only [go_sem]
     try rfl
    ·rintro i ⟨hi,hp⟩
     cases q:decide ((i:Int) < (d.Cache.length:Int))
     ·have eC:=all_end (p:=wrGood d.Secs.length) (show d.Cache.length≤i by simp only [decide_eq_false_iff_not] at q; omega) hp
      refine G1 q ?_
      have e:d.ok=true:=by simp only [DevV.ok,g1,g2',g3,eS,eC,Bool.and_true]
      exact F1 e
     ·have k1:i < d.Cache.length:=by simp only [decide_eq_true_eq] at q; omega
      refine G3 q (List.getElem?_eq_getElem k1) ws ?_
      refine C0 (c_i_within _ _ _) ?_
      cases g:win d.Cache[i].N 0 ((d.Secs.length:Int) - 1)
      ·have gg:wrGood d.Secs.length d.Cache[i]=false:=by simp only [wrGood,g,Bool.false_and]
       have e:d.ok=false:=by simp only [DevV.ok,all_not (p:=wrGood d.Secs.length) k1 gg,Bool.and_false]
       exact F1 e
      ·cases g2:decide ((d.Cache[i].B.length:Int) > 120)
       ·refine G2 g2 (List.getElem?_eq_getElem k1) ?_
        exact ⟨i + 1,by rw [IntWalk.i64_in _ (by omega)]; rfl,⟨k1,all_step (p:=wrGood d.Secs.length) k1 hp (by simp only [wrGood,g,g2,Bool.not_false,Bool.and_true])⟩,by omega⟩
       ·have gg:wrGood d.Secs.length d.Cache[i]=false:=by simp only [wrGood,g2,Bool.not_true,Bool.and_false]
        have e:d.ok=false:=by simp only [DevV.ok,all_not (p:=wrGood d.Secs.length) k1 gg,Bool.and_false]
        exact F3 g2 (List.getElem?_eq_getElem k1) e
   ·have k1:i < d.Secs.length:=by simp only [decide_eq_true_eq] at q; omega
    cases g:decide ((d.Secs[i].length:Int) > 120)
    ·refine G3 q (List.getElem?_eq_getElem k1) g ?_
     exact ⟨i + 1,by rw [IntWalk.i64_in _ (by omega)]; rfl,⟨k1,all_step (p:=secGood) k1 hp (by simp only [secGood,g,Bool.not_false])⟩,by omega⟩
    ·have gg:secGood d.Secs[i]=false:=by simp only [secGood,g,Bool.not_true]
     have e:d.ok=false:=by simp only [DevV.ok,all_not (p:=secGood) k1 gg,Bool.and_false,Bool.false_and]
     exact F4 q (List.getElem?_eq_getElem k1) g e
 ·have g2':decide ((d.Cache.length:Int)≤40)=false:=by rw [gt_le] at g2; simpa using g2
  have e:d.ok=false:=by simp only [DevV.ok,g2',Bool.and_false,Bool.false_and]
  exact F2 g2 e
def x_i_FlushDev:FnX:=⟨44,[.cell 2 (some 4)],
  .q [.v 1 0,.op 2 (.alloc [.nils 1,.nils 2,.i 0,.F])]
 (.q [.L 7 4 1,.c 8 245 [7],.op 3 (.alloc [.nils 1,.nils 2,.i 0,.F]),.s 100001 4 3 8]
 (.seq (.q [.L 9 4 1,.c 10 178 [9],.N 11 10,.m 12 11,.z 12 (.f 13 1 3),.z 12 (.l 14 13),.r 15 12 14]
 (.c 15 (.q [.L 16 4 3,.s 100002 4 2 16]
 .ret)))
 (.q [.L 18 4 3,.op 19 (.call 311 [1] [(.t 18)]),.m 17 19,.e 20 17 0,.e 21 17 1,.s 100003 4 3 20,.m 4 21]
 (.seq (.q [.m 22 4,.N 23 22]
 (.c 23 (.q [.L 24 4 3,.s 100004 4 2 24]
 .ret)))
 (.seq (.q [.f 25 3 1,.l 26 25,.n 27 26,.i 28 0]
 (.block 0 (.loop [2,3,26,27,28] (.q [.b 29 .lss 28 27]
 (.seq (.cond 29 .skip (.exit 0))
 (.seq (.block 1 (.q [.x 30 2 26 28,.L 31 2 30,.op 6 (.alloc [.i 0,.nils 1]),.s 100005 2 6 31]
 (.draw [.f 32 3 0,.l 33 32,.f 34 6 0,.l 35 34,.f 36 6 1,.l 37 36,.op 38 (.bslice 1 [(.t 37)]),.c 39 100 [38],.x 40 1 33 35,.s 100006 1 40 39] [[],[0],[],[2],[],[4],[5],[6],[1,3,0,1,2,3,4,5,6,7],[8,7,7,0,1,2,3,4,5,6,7]])))
 (.reg [.B 41 .add 28 1,.m 28 41])))))))
 (.norm [2,3] (.q [.f 42 3 1,⟨none,none,100007,.store 1 (.t 42) (.k (.one (.nils 2)))⟩]
 (.q [.L 43 4 3,.s 100008 4 2 43]
 .ret))))))))⟩
theorem r_i_FlushDev {Te:TE} (c_i_copyDev:C_i_copyDev Te) (c_i_DevOk:C_i_DevOk Te) (c_i_burn:C_i_burn Te) (c_i_joined:C_i_joined Te):C_i_FlushDev (RF Te x_i_FlushDev):=by
 intro d hk
 have hin:=DevV.ok_in hk
 have h40:=DevV.ok_cache hk
 have hL:=hin.len (by decide)
 have hidx:=DevV.ok_idx hk
 refine X0 x_i_FlushDev.eq_1 ?_
 refine C0 (c_i_copyDev d hL) ?_
 refine C1 (c_i_DevOk d (hin.mono (by decide))) hk ?_
 cases g1:d.Down
 rotate_left
 ·have e:d.flush=d:=by rw [DevV.flush,if_pos g1]
  try simp -implicitDefEqProofs (maxSteps:=1000000) only [go_sem,g1,e,take_all,DevV.enc]
  repeat refine ⟨sc,?_⟩
  try exact sf
  try rfl
 have e:=show d.flush=if d.Fuse=0 then d.burn else ⟨flushed d.Secs d.Cache,[],d.burn.Fuse,d.burn.Down⟩ from if_neg (by rw [g1]; decide)
 refine G1 g1 ?_
 have tb:=c_i_burn d
 simp only [DevV.enc,g1] at tb
 have bc:=burn_cache d
 have bs:=burn_secs d
 cases g6:(d.Fuse==0)
 rotate_left
 ·have g7:d.Fuse=0:=by simpa using g6
  rw [if_pos g7] at e
  refine .of (tb) ?_
  try simp -implicitDefEqProofs (maxSteps:=1000000) only [go_sem,g6,take_all,e,g1,DevV.enc]
  repeat refine ⟨sc,?_⟩
  try exact sf
  try rfl
 have g7:¬ d.Fuse=0:=by simpa using g6
 rw [if_neg g7] at e
 refine C1 (tb) g6 ?_
 refine loop_of (σ:=Nat×List (List UInt8)) (fun x=>⟨[(2,.bp 2 0),(3,.bp 3 0),(26,.one (.rf 45 1 [] 2 0 d.Cache.length)),(27,.one (.pv (.int .i64 d.Cache.length))),(28,.one (.pv (.int .i64 x.1)))],[(2,[.nils 1,.nils 2,.pv (.int .i64 0),.pv (.bool false)]),(3,[.rf 45 0 [] 1 0 d.Secs.length,.rf 45 1 [] 2 0 d.Cache.length,.pv (.int .i64 d.burn.Fuse),.pv (.bool d.burn.Down)])],[(0,d.enc false),(45,[slT true 1 (secR true) x.2,Tr.sl true 2 () (mvRows d.Cache x.1),iT d.burn.Fuse,bT d.burn.Down,bT true])]⟩) (fun x=>x.1≤d.Cache.length∧x.2=flushed d.Secs (d.Cache.take x.1)) (fun x=>d.Cache.length - x.1) (0,d.Secs) ?_ ⟨Nat.zero_le _,rfl⟩ ?_
 ·simp -implicitDefEqProofs (maxSteps:=1000000) only [go_sem,bs,bc]
  try rfl
 ·rintro ⟨i,S⟩ ⟨hi,he⟩
  simp only at hi he
  have hl:S.length=d.Secs.length:=by rw [he,flushed_len]
  have hl2:(List.map (secR true) S).length=d.Secs.length:=by rw [List.length_map,hl]
  cases q:decide ((i:Int) < (d.Cache.length:Int))
  ·have k0:i=d.Cache.length:=by simp only [decide_eq_false_iff_not] at q; omega
   rw [k0,List.take_length] at he
   have et:List.take d.Secs.length (List.map (secR true) S)=List.map (secR true) S:=List.take_of_length_le (by omega)
   rw [← he] at e
   exact F3 q et e
  ·have k1:i < d.Cache.length:=by simp only [decide_eq_true_eq] at q; omega
   have hw:=hidx _ (List.getElem_mem k1)
   have hb:d.Cache[i].B.length≤2 ^ 20:=hin.2.2 _ (List.getElem_mem k1)
   have g8:decide (0≤d.Cache[i].N)=true:=decide_eq_true hw.1
   have hn:d.Cache[i].N.toNat < S.length:=by omega
   have em:=mv_get k1
   have ec:(mvRows d.Cache i).getD i []=d.Cache[i].enc true:=by rw [List.getD_eq_getElem?_getD,em]; rfl
   have ex:=mv_set k1
   have eg:=getS hn
   have es:=setS S d.Cache[i].N.toNat d.Cache[i].B
   try simp -implicitDefEqProofs (maxSteps:=1000000) only [go_sem,q,em,ec,ex,mv_len]
   repeat refine ⟨sc,?_⟩
   try exact sf
   refine .of (c_i_joined [d.Cache[i].B] (by rw [flat1]; omega) (by show 1≤2 ^ 31; decide)) ?_
   try simp -implicitDefEqProofs (maxSteps:=1000000) only [go_sem,flat1,take_all,g8,em,ec,ex,mv_len,storeAp,setCells,eg,es,hl2]
   repeat refine ⟨sc,?_⟩
   try exact sf
   refine ⟨(i + 1,S.set d.Cache[i].N.toNat d.Cache[i].B),?_,⟨k1,by rw [he,flushed_step k1]⟩,by simp only; omega⟩
   rw [IntWalk.i64_in _ (by omega)]
   rfl
def x_i_ByteSign:FnX:=⟨35,[.tmp 4,.tmp 5],
  .q [.i 4 0,.F 5]
 (.seq (.q [.m 7 0,.op 8 (.call 90 [0,0,0] [(.t 7),(.i 1),(.i 4)]),.N 9 8,.m 10 9,.z 10 (.m 11 1),.z 10 (.op 12 (.call 90 [0,0,0] [(.t 11),(.i 0),(.i 255)])),.z 10 (.N 13 12),.r 14 10 13]
 (.c 14 (.q [.i 4 0,.F 5]
 .ret)))
 (.seq (.q [.m 15 1,.B 16 .leq 15 127]
 (.c 16 (.q [.m 17 1,.m 4 17,.T 5]
 .ret)))
 (.q [.m 18 1,.m 6 18]
 (.seq (.q [.m 19 0]
 (.block 0 (.q [.B 21 .eql 19 2,.m 20 21]
 (.cond 20 (.reg [.m 22 1,.c 23 325 [22],.m 6 23]) (.q [.B 25 .eql 19 3,.m 24 25]
 (.cond 24 (.reg [.m 26 1,.c 27 326 [26],.m 6 27]) (.q [.B 29 .eql 19 4,.m 28 29]
 (.c 28 (.reg [.m 30 1,.c 31 327 [30],.m 6 31])))))))))
 (.q [.m 32 6,.m 33 6,.B 34 .neq 33 0,.m 4 32,.m 5 34]
 .ret)))))⟩
theorem r_i_ByteSign {Te:TE} (c_i_within:C_i_within Te) (c_i_nineSign:C_i_nineSign Te) (c_i_koiSign:C_i_koiSign Te) (c_i_winSign:C_i_winSign Te):C_i_ByteSign (RF Te x_i_ByteSign):=by
 intro cs b
 refine X0 x_i_ByteSign.eq_1 ?_
 refine C0 (c_i_within _ _ _) ?_
 cases g1:win cs 1 4
 ·try simp -implicitDefEqProofs (maxSteps:=1000000) only [go_sem,byteSign,g1]
  repeat refine ⟨sc,?_⟩
  try exact sf
 ·refine G0 ?_
  refine C0 (c_i_within _ _ _) ?_
  cases g2:win b 0 255
  ·try simp -implicitDefEqProofs (maxSteps:=1000000) only [go_sem,byteSign,g1,g2]
   repeat refine ⟨sc,?_⟩
   try exact sf
  ·cases g3:decide (b≤127)
   ·have hb:128≤b∧b≤255:=by simp only [win,Bool.and_eq_true,decide_eq_true_eq] at g2; simp only [decide_eq_false_iff_not] at g3; omega
    refine G1 g3 ?_
    cases g4:(cs==2)
    ·cases g5:(cs==3)
     ·cases g6:(cs==4)
      ·try simp -implicitDefEqProofs (maxSteps:=1000000) only [go_sem,g4,g5,g6,byteSign,signOf,g1,g2,g3]
       repeat refine ⟨sc,?_⟩
       try exact sf
      ·refine G3 g4 g5 g6 ?_
       refine .of (c_i_winSign _ hb) ?_
       try simp -implicitDefEqProofs (maxSteps:=1000000) only [go_sem,byteSign,signOf,g1,g2,g3,g4,g5,g6]
       repeat refine ⟨sc,?_⟩
       try exact sf
     ·refine G2 g4 g5 ?_
      refine .of (c_i_koiSign _ hb) ?_
      try simp -implicitDefEqProofs (maxSteps:=1000000) only [go_sem,byteSign,signOf,g1,g2,g3,g4,g5]
      repeat refine ⟨sc,?_⟩
      try exact sf
    ·refine G1 g4 ?_
     refine .of (c_i_nineSign _) ?_
     try simp -implicitDefEqProofs (maxSteps:=1000000) only [go_sem,byteSign,signOf,g1,g2,g3,g4]
     repeat refine ⟨sc,?_⟩
     try exact sf
   ·try simp -implicitDefEqProofs (maxSteps:=1000000) only [go_sem,g3,byteSign,g1,g2]
    repeat refine ⟨sc,?_⟩
    try exact sf
def x_s_ByteSign:FnX:=⟨34,[.tmp 4,.tmp 5],
  .q [.i 4 0,.F 5]
 (.seq (.q [.m 7 0,.op 8 (.call 120 [0,0,0] [(.t 7),(.i 1),(.i 4)]),.N 9 8,.m 10 9,.z 10 (.m 11 1),.z 10 (.op 12 (.call 120 [0,0,0] [(.t 11),(.i 0),(.i 255)])),.z 10 (.N 13 12),.r 14 10 13]
 (.c 14 (.q [.i 4 0,.F 5]
 .ret)))
 (.q [.m 15 1,.m 6 15]
 (.seq (.q [.m 16 1,.B 17 .geq 16 128]
 (.c 17 (.q [.m 18 0]
 (.block 0 (.q [.B 20 .eql 18 2,.m 19 20]
 (.cond 19 (.reg [.m 21 1,.c 22 331 [21],.m 6 22]) (.q [.B 24 .eql 18 3,.m 23 24]
 (.cond 23 (.reg [.m 25 1,.c 26 332 [25],.m 6 26]) (.q [.B 28 .eql 18 4,.m 27 28]
 (.c 27 (.reg [.m 29 1,.c 30 333 [29],.m 6 30])))))))))))
 (.seq (.q [.m 31 6,.B 32 .lss 31 0]
 (.c 32 (.q [.i 4 0,.F 5]
 .ret)))
 (.q [.m 33 6,.m 4 33,.T 5]
 .ret)))))⟩
theorem r_s_ByteSign {Te:TE} (c_s_l1In:C_s_l1In Te) (c_s_l3Nine:C_s_l3Nine Te) (c_s_l3Koi:C_s_l3Koi Te) (c_s_l3Win:C_s_l3Win Te):C_s_ByteSign (RF Te x_s_ByteSign):=by
 intro cs b
 refine X0 x_s_ByteSign.eq_1 ?_
 refine C0 (c_s_l1In _ _ _) ?_
 cases g1:win cs 1 4
 ·try simp -implicitDefEqProofs (maxSteps:=1000000) only [go_sem,byteSign,g1]
  repeat refine ⟨sc,?_⟩
  try exact sf
 ·refine G0 ?_
  refine C0 (c_s_l1In _ _ _) ?_
  cases g2:win b 0 255
  ·try simp -implicitDefEqProofs (maxSteps:=1000000) only [go_sem,byteSign,g1,g2]
   repeat refine ⟨sc,?_⟩
   try exact sf
  ·have h2:0≤b∧b≤255:=by simpa only [win,Bool.and_eq_true,decide_eq_true_eq] using g2
   cases g3:decide (b≥128)
   ·have g3':decide (b≤127)=true:=by simp only [decide_eq_false_iff_not] at g3; exact decide_eq_true (by omega)
    have g7:decide (b < 0)=false:=decide_eq_false (by omega)
    try simp -implicitDefEqProofs (maxSteps:=1000000) only [go_sem,g3,g7,byteSign,g1,g2,g3']
    repeat refine ⟨sc,?_⟩
    try exact sf
   ·have hb:128≤b∧b≤255:=by simp only [decide_eq_true_eq] at g3; omega
    have g3':decide (b≤127)=false:=decide_eq_false (by omega)
    refine G1 g3 ?_
    cases g4:(cs==2)
    ·cases g5:(cs==3)
     ·cases g6:(cs==4)
      ·have g7:decide (b < 0)=false:=decide_eq_false (by omega)
       have g8:(b != 0)=true:=by simp; omega
       try simp -implicitDefEqProofs (maxSteps:=1000000) only [go_sem,g4,g5,g6,g7,g8,byteSign,signOf,g1,g2,g3']
       repeat refine ⟨sc,?_⟩
       try exact sf
      ·refine G3 g4 g5 g6 ?_
       refine C0 (c_s_l3Win _ hb) ?_
       obtain ⟨w1,w2⟩:=win_rel hb
       cases g9:(winB winL b==0)
       ·have g7:decide (winB winL b < 0)=false:=decide_eq_false (by omega)
        have g8:(winB winL b != 0)=true:=by simpa using g9
        simp only [g9,cond_false] at w1
        try simp -implicitDefEqProofs (maxSteps:=1000000) only [go_sem,w1,g7,g8,byteSign,signOf,g1,g2,g3',g4,g5,g6]
        repeat refine ⟨sc,?_⟩
        try exact sf
       ·have g8:winB winL b=0:=by simpa using g9
        simp only [g9,cond_true] at w1
        try simp -implicitDefEqProofs (maxSteps:=1000000) only [go_sem,w1,g8,byteSign,signOf,g1,g2,g3',g4,g5,g6]
        repeat refine ⟨sc,?_⟩
        try exact sf
        try rfl
     ·refine G2 g4 g5 ?_
      refine C0 (c_s_l3Koi _ hb) ?_
      obtain ⟨w1,w2⟩:=koi_rel hb
      cases g9:(koi 0 b==0)
      ·have g7:decide (koi 0 b < 0)=false:=decide_eq_false (by omega)
       have g8:(koi 0 b != 0)=true:=by simpa using g9
       simp only [g9,cond_false] at w1
       try simp -implicitDefEqProofs (maxSteps:=1000000) only [go_sem,w1,g7,g8,byteSign,signOf,g1,g2,g3',g4,g5]
       repeat refine ⟨sc,?_⟩
       try exact sf
      ·have g8:koi 0 b=0:=by simpa using g9
       simp only [g9,cond_true] at w1
       try simp -implicitDefEqProofs (maxSteps:=1000000) only [go_sem,w1,g8,byteSign,signOf,g1,g2,g3',g4,g5]
       repeat refine ⟨sc,?_⟩
       try exact sf
       try rfl
    ·refine G1 g4 ?_
     refine C0 (c_s_l3Nine _) ?_
     have w1:=nine_rel hb
     have g7:decide (nine b < 0)=false:=decide_eq_false (by omega)
     have g8:(nine b != 0)=true:=by simp; omega
     try simp -implicitDefEqProofs (maxSteps:=1000000) only [go_sem,g7,g8,byteSign,signOf,g1,g2,g3',g4]
     repeat refine ⟨sc,?_⟩
     try exact sf
def x_l_heldMsgS_7:XCode:=.seq (.q [.m 77 0,.m 78 5,.x 79 8 77 78,.f 80 79 7,.l 81 80,.m 82 1,.b 83 .neq 81 82]
 (.c 83 (.q [.i 4 (-1)]
 .ret)))
 (.reg [.m 84 1,.B 85 .add 84 1,.m 1 85])
def x_l_heldMsgS_6:XCode:=.seq (.q [.m 68 0,.m 69 5,.x 70 8 68 69,.f 71 70 6,.l 72 71,.m 73 1,.b 74 .neq 72 73]
 (.c 74 (.q [.i 4 (-1)]
 .ret)))
 (.q [.m 75 1,.B 76 .add 75 1,.m 1 76]
 x_l_heldMsgS_7)
def x_l_heldMsgS_5:XCode:=.seq (.seq (.draw [.m 58 0,.m 59 5,.x 60 8 58 59,.f 61 60 5,.l 62 61,.m 63 1,.c 64 146 [63],.b 65 .neq 62 64] [[],[],[0,1],[2],[3],[],[5],[4,6]])
 (.c 65 (.q [.i 4 (-1)]
 .ret)))
 (.q [.m 66 1,.B 67 .add 66 1,.m 1 67]
 x_l_heldMsgS_6)
def x_l_heldMsgS_4:XCode:=.seq (.seq (.draw [.m 48 0,.m 49 5,.x 50 8 48 49,.f 51 50 4,.l 52 51,.m 53 1,.c 54 146 [53],.b 55 .neq 52 54] [[],[],[0,1],[2],[3],[],[5],[4,6]])
 (.c 55 (.q [.i 4 (-1)]
 .ret)))
 (.q [.m 56 1,.B 57 .add 56 1,.m 1 57]
 x_l_heldMsgS_5)
def x_l_heldMsgS_3:XCode:=.seq (.q [.m 39 0,.m 40 5,.x 41 8 39 40,.f 42 41 3,.l 43 42,.m 44 1,.b 45 .neq 43 44]
 (.c 45 (.q [.i 4 (-1)]
 .ret)))
 (.q [.m 46 1,.B 47 .add 46 1,.m 1 47]
 x_l_heldMsgS_4)
def x_l_heldMsgS_2:XCode:=.seq (.q [.m 30 0,.m 31 5,.x 32 8 30 31,.f 33 32 2,.l 34 33,.m 35 1,.b 36 .neq 34 35]
 (.c 36 (.q [.i 4 (-1)]
 .ret)))
 (.q [.m 37 1,.B 38 .add 37 1,.m 1 38]
 x_l_heldMsgS_3)
def x_l_heldMsgS_1:XCode:=.seq (.q [.m 21 0,.m 22 5,.x 23 8 21 22,.f 24 23 1,.l 25 24,.m 26 1,.b 27 .neq 25 26]
 (.c 27 (.q [.i 4 (-1)]
 .ret)))
 (.q [.m 28 1,.B 29 .add 28 1,.m 1 29]
 x_l_heldMsgS_2)
def x_l_heldMsgS:FnX:=⟨87,[.tmp 4],
  .q [.i 4 0]
 (.seq (.q [.i 5 0]
 (.block 0 (.loop [0,1,5] (.seq (.q [.m 6 5,.m 7 0,.n 8 7,.b 9 .lss 6 8]
 (.cond 9 .skip (.exit 0)))
 (.seq (.block 1 (.seq (.q [.m 12 0,.m 13 5,.x 14 8 12 13,.f 15 14 0,.l 16 15,.m 17 1,.b 18 .neq 16 17]
 (.c 18 (.q [.i 4 (-1)]
 .ret)))
 (.q [.m 19 1,.B 20 .add 19 1,.m 1 20]
 x_l_heldMsgS_1)))
 (.reg [.m 10 5,.B 11 .add 10 1,.m 5 11]))))))
 (.norm [1] (.q [.m 86 1,.m 4 86]
 .ret)))⟩
theorem r_l_heldMsgS {Te:TE} (c_l_markText:C_l_markText Te):C_l_heldMsgS (RF Te x_l_heldMsgS):=by
 intro n k hl hk
 refine run0 ?_
 simp -implicitDefEqProofs (maxSteps:=1000000) (disch:=omega) only [x_l_heldMsgS,go_sem,IntWalk.i64_in]
 refine loop_of (σ:=Nat) (fun i=>⟨[(0,.one (.ro 8 ((marks 8 mkMsg n k).map Msg.row))),(1,.one (.pv (.int .i64 (k + (8 * i:Nat))))),(5,.one (.pv (.int .i64 i)))],[],[(0,[slT false 8 Msg.row (marks 8 mkMsg n k)]),(1,[iT k])]⟩) (fun i=>i≤n) (fun i=>n - i) 0 ?_ (Nat.zero_le _) ?_
 ·simp -implicitDefEqProofs (maxSteps:=1000000) only [go_sem]; simp
 ·intro i hi
  simp -implicitDefEqProofs (maxSteps:=1000000) only [go_sem,marks_length]
  refine ⟨fun h=>?_,fun h=>?_⟩
  ·have hi':i < n:=by simp only [decide_eq_true_eq] at h; omega
   try simp -implicitDefEqProofs (maxSteps:=1000000) (disch:=omega) only [go_sem,marks_get 8 mkMsg k hi',IntWalk.i64_in,mkMsg,bne_self_eq_false,decide_true,Bool.not_true]
   simp -implicitDefEqProofs (maxSteps:=1000000) (disch:=omega) only [x_l_heldMsgS_1,go_sem,marks_get 8 mkMsg k hi',IntWalk.i64_in,mkMsg,bne_self_eq_false,decide_true,Bool.not_true]
   simp -implicitDefEqProofs (maxSteps:=1000000) (disch:=omega) only [x_l_heldMsgS_2,go_sem,marks_get 8 mkMsg k hi',IntWalk.i64_in,mkMsg,bne_self_eq_false,decide_true,Bool.not_true]
   simp -implicitDefEqProofs (maxSteps:=1000000) (disch:=omega) only [x_l_heldMsgS_3,go_sem,marks_get 8 mkMsg k hi',IntWalk.i64_in,mkMsg,bne_self_eq_false,decide_true,Bool.not_true]
   simp -implicitDefEqProofs (maxSteps:=1000000) (disch:=omega) only [x_l_heldMsgS_4,go_sem,marks_get 8 mkMsg k hi',IntWalk.i64_in,mkMsg,bne_self_eq_false,decide_true,Bool.not_true]
   refine .of (c_l_markText _ (by omega)) ?_
   simp -implicitDefEqProofs (maxSteps:=1000000) (disch:=omega) only [go_sem,marks_get 8 mkMsg k hi',IntWalk.i64_in,mkMsg,bne_self_eq_false,decide_true,Bool.not_true]
   repeat (refine ⟨by decide,?_⟩)
   simp -implicitDefEqProofs (maxSteps:=1000000) (disch:=omega) only [x_l_heldMsgS_5,go_sem,marks_get 8 mkMsg k hi',IntWalk.i64_in,mkMsg,bne_self_eq_false,decide_true,Bool.not_true]
   refine .of (c_l_markText _ (by omega)) ?_
   simp -implicitDefEqProofs (maxSteps:=1000000) (disch:=omega) only [go_sem,marks_get 8 mkMsg k hi',IntWalk.i64_in,mkMsg,bne_self_eq_false,decide_true,Bool.not_true]
   repeat (refine ⟨by decide,?_⟩)
   simp -implicitDefEqProofs (maxSteps:=1000000) (disch:=omega) only [x_l_heldMsgS_6,go_sem,marks_get 8 mkMsg k hi',IntWalk.i64_in,mkMsg,bne_self_eq_false,decide_true,Bool.not_true]
   simp -implicitDefEqProofs (maxSteps:=1000000) (disch:=omega) only [x_l_heldMsgS_7,go_sem,marks_get 8 mkMsg k hi',IntWalk.i64_in,mkMsg,bne_self_eq_false,decide_true,Bool.not_true]
   refine ⟨i + 1,?_,hi',by omega⟩
   rw [show k + ((8 * (i + 1):Nat):Int)=k + (8 * i:Nat) + 1 + 1 + 1 + 1 + 1 + 1 + 1 + 1 by omega]
   rfl
  ·have:i=n:=by simp only [decide_eq_false_iff_not] at h; omega
   subst this
   simp -implicitDefEqProofs (maxSteps:=1000000) only [go_sem]
def x_l_eqWr:FnX:=⟨16,[.tmp 4],
  .q [.v 2 0,.v 3 1,.F 4]
 (.seq (.q [.f 5 2 0,.l 6 5,.f 7 3 0,.l 8 7,.b 9 .neq 6 8]
 (.c 9 (.q [.F 4]
 .ret)))
 (.seq (.q [.f 10 2 1,.l 11 10,.f 12 3 1,.l 13 12,.c 14 380 [11,13],.N 15 14]
 (.c 15 (.q [.F 4]
 .ret)))
 (.q [.T 4]
 .ret)))⟩
theorem r_l_eqWr {Te:TE} (c_l_eqByteS:C_l_eqByteS Te):C_l_eqWr (RF Te x_l_eqWr):=by
 intro x y hx
 refine run0 ?_
 have h0:x.B.length≤2 ^ 21:=hx
 have key:(x=y)↔x.N=y.N∧x.B=y.B:=by cases x; cases y; simp
 simp only [key]
 clear key
 simp -implicitDefEqProofs (maxSteps:=1000000) only [x_l_eqWr,go_sem]
 refine ⟨fun q=>?_,fun q=>?_⟩
 ·have n0:¬ (x.N=y.N):=by simpa using q
  simp only [n0,false_and,and_false,true_and,decide_false]
 have e0:x.N=y.N:=by simpa using q
 clear q
 refine .of (c_l_eqByteS _ _ (Nat.le_trans h0 (by decide))) ?_
 simp -implicitDefEqProofs (maxSteps:=1000000) only [go_sem]
 refine ⟨fun q=>?_,fun q=>?_⟩
 ·have n1:¬ (x.B=y.B):=by simpa using q
  simp only [e0,n1,false_and,and_false,true_and,decide_false]
 have e1:x.B=y.B:=by simpa using q
 clear q
 simp only [e0,e1,true_and,and_true,decide_true]
def x_l_szWrS:FnX:=⟨27,[.tmp 4],
  .q [.i 4 0]
 (.q [.m 6 1,.m 7 0,.n 8 7,.b 9 .sub 6 8,.m 1 9]
 (.seq (.q [.m 10 1,.B 11 .lss 10 0]
 (.c 11 (.q [.i 4 (-1)]
 .ret)))
 (.seq (.q [.i 5 0]
 (.block 0 (.loop [0,1,5] (.seq (.q [.m 12 5,.m 13 0,.n 14 13,.b 15 .lss 12 14]
 (.cond 15 .skip (.exit 0)))
 (.seq (.block 1 (.q [.m 18 0,.m 19 5,.x 20 2 18 19,.L 21 2 20,.m 22 1,.c 23 374 [21,22],.m 1 23]
 (.q [.m 24 1,.B 25 .lss 24 0]
 (.c 25 (.q [.i 4 (-1)]
 .ret)))))
 (.reg [.m 16 5,.B 17 .add 16 1,.m 5 17]))))))
 (.norm [1] (.q [.m 26 1,.m 4 26]
 .ret)))))⟩
theorem r_l_szWrS {Te:TE} (c_l_szWr:C_l_szWr Te):C_l_szWrS (RF Te x_l_szWrS):=by
 intro l k hk hl hs
 refine run0 ?_
 simp -implicitDefEqProofs (maxSteps:=1000000) (disch:=omega) only [x_l_szWrS,go_sem,IntWalk.i64_in]
 refine ⟨fun h=>?_,fun h=>?_⟩
 ·simp only [decide_eq_true_eq] at h
  simp only [szSl,szAll,if_pos h]
 ·simp only [decide_eq_false_iff_not] at h
  refine loop_of (σ:=Nat×Int) (fun x=>⟨[(0,.one (.ro 2 (l.map (WrV.enc false)))),(1,.one (.pv (.int .i64 x.2))),(5,.one (.pv (.int .i64 x.1)))],[],[(0,[slT false 2 (WrV.enc false) l]),(1,[iT k])]⟩) (fun x=>x.1≤l.length∧0≤x.2∧x.2≤k∧szSl szWr l k=szAll ((l.drop x.1).map szWr) x.2) (fun x=>l.length - x.1) (0,k - l.length) ?_ ⟨Nat.zero_le _,by omega,by omega,by simp only [szSl,szAll,if_neg h,List.drop_zero]⟩ ?_
  ·simp -implicitDefEqProofs (maxSteps:=1000000) only [go_sem]; rfl
  ·rintro ⟨i,c⟩ ⟨hi,h0,h1,he⟩
   simp only at hi h0 h1 he
   simp -implicitDefEqProofs (maxSteps:=1000000) only [go_sem]
   refine ⟨fun h=>?_,fun h=>?_⟩
   ·have hi':i < l.length:=by simp only [decide_eq_true_eq] at h; omega
    have hsz:=hs l[i] (List.getElem_mem hi')
    have hsn:szWr l[i] c≤c:=szWr_sane l[i] c h0
    rw [List.drop_eq_getElem_cons hi'] at he
    simp -implicitDefEqProofs (maxSteps:=1000000) (disch:=omega) only [go_sem,List.getElem?_eq_getElem hi',IntWalk.i64_in]
    refine .of (c_l_szWr _ _ hsz ⟨h0,by omega⟩) ?_
    simp -implicitDefEqProofs (maxSteps:=1000000) only [go_sem]
    refine ⟨fun h2=>?_,fun h2=>?_⟩
    ·simp only [decide_eq_true_eq] at h2
     rw [he]
     simp only [List.map_cons,szAll,if_pos h2]
    ·simp only [decide_eq_false_iff_not] at h2
     refine ⟨(i + 1,szWr l[i] c),by rw [IntWalk.i64_in _ (by omega)]; rfl,⟨hi',by omega,by simp only; omega,?_⟩,by simp only; omega⟩
     rw [he]
     simp only [List.map_cons,szAll,if_neg h2]
   ·have hle:l.length≤i:=by simp only [decide_eq_false_iff_not] at h; omega
    rw [List.drop_of_length_le hle] at he
    simp only [szAll,List.map_nil] at he
    rw [he]
def x_l_toWrS:FnX:=⟨23,[.tmp 2],
  .q [.op 2 (.mv (.k (.one (.nils 2))))]
 (.q [.m 5 0,.n 6 5,.op 7 (.mks 2 32 [.pv (.int .i64 0),.sl true 1 () []] (.t 6)),.m 3 7]
 (.seq (.q [.i 4 0]
 (.block 0 (.loop [0,3,4] (.seq (.q [.m 8 4,.m 9 0,.n 10 9,.b 11 .lss 8 10]
 (.cond 11 .skip (.exit 0)))
 (.seq (.block 1 (.reg [.m 14 3,.m 15 4,.m 16 0,.m 17 4,.x 18 2 16 17,.L 19 2 18,.c 20 377 [19],.x 21 2 14 15,.s 100001 2 21 20]))
 (.reg [.m 12 4,.B 13 .add 12 1,.m 4 13]))))))
 (.norm [3] (.q [.m 22 3,.m 2 22]
 .ret))))⟩
theorem r_l_toWrS {Te:TE} (c_l_toWr:C_l_toWr Te):C_l_toWrS (RF Te x_l_toWrS):=by
 intro l hl
 refine run0 ?_
 have hl1:=hl.1
 simp -implicitDefEqProofs (maxSteps:=1000000) (disch:=omega) only [x_l_toWrS,go_sem,IntWalk.i64_in]
 refine ⟨⟨by simp only [decide_eq_true_eq]; omega,by simp only [decide_eq_true_eq]; omega⟩,?_⟩
 refine loop_of (σ:=Nat) (fun i=>⟨[(0,.one (.ro 2 (l.map (WrV.enc false)))),(3,.one (.rf 24 0 [] 2 0 l.length)),(4,.one (.pv (.int .i64 i)))],[],
  [(0,[slT false 2 (WrV.enc false) l]),(24,[.sl true 2 () ((l.take i).map (WrV.enc true)++List.replicate (l.length - i) [.pv (.int .i64 0),.sl true 1 () []])])]⟩) (fun i=>i≤l.length) (fun i=>l.length - i) 0 ?_ (Nat.zero_le _) ?_
 ·simp -implicitDefEqProofs (maxSteps:=1000000) only [go_sem]; rfl
 ·intro i hi
  simp -implicitDefEqProofs (maxSteps:=1000000) only [go_sem]
  refine ⟨fun h=>?_,fun h=>?_⟩
  ·have hi':i < l.length:=by simp only [decide_eq_true_eq] at h; omega
   simp -implicitDefEqProofs (maxSteps:=1000000) only [go_sem,List.getElem?_eq_getElem hi',fill_len (WrV.enc true) l [.pv (.int .i64 0),.sl true 1 () []] hi,storeAp,setCells,List.getD_eq_getElem?_getD,fill_get (WrV.enc true) l [.pv (.int .i64 0),.sl true 1 () []] hi']
   refine .of (c_l_toWr _ (hl.2 _ (List.getElem_mem hi'))) ?_
   simp -implicitDefEqProofs (maxSteps:=1000000) only [go_sem,fill_len (WrV.enc true) l [.pv (.int .i64 0),.sl true 1 () []] hi,storeAp,setCells,List.getD_eq_getElem?_getD,fill_get (WrV.enc true) l [.pv (.int .i64 0),.sl true 1 () []] hi']
   repeat (first | refine ⟨by decide,?_⟩ | refine ⟨by simpa using hi',?_⟩)
   refine ⟨i + 1,?_,hi',by omega⟩
   rw [← fill_set (WrV.enc true) l [.pv (.int .i64 0),.sl true 1 () []] hi',IntWalk.i64_in _ (by omega)]
   rfl
  ·have:i=l.length:=by simp only [decide_eq_false_iff_not] at h; omega
   subst this
   simp -implicitDefEqProofs (maxSteps:=1000000) only [go_sem,fill_len (WrV.enc true) l [.pv (.int .i64 0),.sl true 1 () []] hi,fill_end]
   refine ⟨by simp,?_⟩
   simp [take_map]
def x_s_NameOk:FnX:=⟨27,[.tmp 2],
  .q [.F 2]
 (.seq (.q [.i 3 0]
 (.block 0 (.loop [0,3] (.seq (.q [.m 4 3,.m 5 0,.op 6 (.slen (.t 5)),.b 7 .lss 4 6]
 (.cond 7 .skip (.exit 0)))
 (.seq (.block 1 (.q [.m 10 0,.m 11 3,.op 12 (.sidx (.t 10) (.t 11)),.op 13 (.conv (.int .i64) (.t 12)),.op 14 (.call 120 [0,0,0] [(.t 13),(.i 97),(.i 122)]),.N 15 14,.m 16 15,.y 16 (.m 17 0),.y 16 (.m 18 3),.y 16 (.op 19 (.sidx (.t 17) (.t 18))),.y 16 (.op 20 (.conv (.int .i64) (.t 19))),.y 16 (.op 21 (.call 120 [0,0,0] [(.t 20),(.i 48),(.i 57)])),.y 16 (.N 22 21),.a 23 16 22]
 (.c 23 (.q [.F 2]
 .ret))))
 (.reg [.m 8 3,.B 9 .add 8 1,.m 3 9]))))))
 (.norm [0] (.q [.m 24 0,.op 25 (.slen (.t 24)),.op 26 (.call 120 [0,0,0] [(.t 25),(.i 1),(.i 6)]),.m 2 26]
 .ret)))⟩
theorem r_s_NameOk {Te:TE} (c_s_l1In:C_s_l1In Te):C_s_NameOk (RF Te x_s_NameOk):=by
 intro s h
 refine run0 ?_
 have hsz:s.data.toList.length=s.size:=by rw [Array.length_toList]; rfl
 simp -implicitDefEqProofs (maxSteps:=1000000) only [x_s_NameOk,go_sem,nameOk]
 repeat refine ⟨sc,?_⟩
 try exact sf
 refine loop_of (σ:=Nat) (fun i=>⟨[(0,.one (.pv (.string s))),(3,.one (.pv (.int .i64 i)))],[],[(0,[sT s])]⟩) (fun i=>i≤s.size∧(s.data.toList.take i).all nameCh=true) (fun i=>s.size - i) 0 ?_ ⟨Nat.zero_le _,rfl⟩ ?_
 ·simp -implicitDefEqProofs (maxSteps:=1000000) only [go_sem]; rfl
 ·rintro i ⟨hi,hp⟩
  cases q:decide ((i:Int) < (s.size:Int))
  ·have e:=all_end (p:=nameCh) (show s.data.toList.length≤i by simp only [decide_eq_false_iff_not] at q; omega) hp
   refine G1 q ?_
   exact D1 (c_s_l1In _ _ _) e
  ·have hi':i < s.size:=by simp only [decide_eq_true_eq] at q; omega
   have hi2:i < s.data.toList.length:=by omega
   have q1:decide (i < s.size)=true:=decide_eq_true hi'
   have eg:s.data.toList.getD i 0=s.data.toList[i]:=by rw [List.getD_eq_getElem?_getD,List.getElem?_eq_getElem hi2]; rfl
   have hb:=s.data.toList[i].toNat_lt
   have w1:IntKind.i64.wrap ((s.data.toList[i].toNat:Nat):Int)=(s.data.toList[i].toNat:Nat):=IntWalk.i64_in _ (by omega)
   refine G4 q q1 eg w1 ?_
   refine C0 (c_s_l1In _ _ _) ?_
   cases g1:win ((s.data.toList[i].toNat:Nat):Int) 97 122
   ·refine G3 q1 eg w1 ?_
    refine C0 (c_s_l1In _ _ _) ?_
    cases g2:win ((s.data.toList[i].toNat:Nat):Int) 48 57
    ·have e:=all_not (p:=nameCh) hi2 (by simp only [nameCh,g1,g2,Bool.or_false])
     exact F1 e
    ·refine G0 ?_
     refine ⟨i + 1,by rw [IntWalk.i64_in _ (by omega)]; rfl,⟨hi',all_step (p:=nameCh) hi2 hp (by simp only [nameCh,g1,g2,Bool.or_true])⟩,by omega⟩
   ·refine G0 ?_
    refine ⟨i + 1,by rw [IntWalk.i64_in _ (by omega)]; rfl,⟨hi',all_step (p:=nameCh) hi2 hp (by simp only [nameCh,g1,Bool.true_or])⟩,by omega⟩
end Go.X

