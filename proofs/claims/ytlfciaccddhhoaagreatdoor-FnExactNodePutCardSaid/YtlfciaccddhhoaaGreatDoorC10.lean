/- Texts: CVt CVr_2 CT CVl_2 CVz CEb_4 CVze CVk CVb CEb_7 CVs. -/
import Derived.Test.YtlfciaccddhhoaaGreatDoorC04
set_option linter.unusedVariables false
set_option linter.unusedSimpArgs false
namespace Go.X
set_option maxRecDepth 100000
set_option maxHeartbeats 8000000
def x_i_Apply_2:XCode:=.seq (.q [.L 54 3 6,.c 55 185 [54],.N 56 55]
 (.c 56 (.q [.L 57 3 2,.c 58 131 [57],.s 100007 3 4 58,.F 5]
 .ret)))
 (.q [.L 59 3 6,.s 100008 3 4 59,.T 5]
 .ret)
def x_i_Apply_1:XCode:=.seq (.q [.f 40 3 10,.l 41 40,.B 42 .gtr 41 0]
 (.c 42 (.reg [.f 43 6 2,.l 44 43,.f 45 3 10,.l 46 45,.f 47 3 11,.l 48 47,.f 49 3 12,.l 50 49,.op 51 (.build [.i 0,.i 0,.i 0] [(0,1,(.t 46)),(1,1,(.t 48)),(2,1,(.t 50))]),.c 52 196 [44,51],.f 53 6 2,.s 100006 1 53 52])))
 (.norm [2,4,6] (x_i_Apply_2))
def x_i_Apply:FnX:=⟨60,[.cell 4 (some 3),.tmp 5],
  .q [.v 2 0,.v 3 1,.op 4 (.alloc [.nils 7,.i 0,.nils 3]),.F 5]
 (.q [.L 7 3 2,.c 8 131 [7],.op 6 (.alloc [.nils 7,.i 0,.nils 3]),.s 100001 3 6 8]
 (.seq (.q [.L 9 13 3,.c 10 192 [9],.N 11 10,.m 12 11,.z 12 (.L 13 3 2),.z 12 (.c 14 185 [13]),.z 12 (.N 15 14),.r 16 12 15]
 (.c 16 (.q [.L 17 3 6,.s 100002 3 4 17,.F 5]
 .ret)))
 (.seq (.q [.f 18 3 0,.l 19 18]
 (.block 0 (.q [.B 21 .eql 19 1,.m 20 21]
 (.cond 20 (.reg [.f 22 6 0,.l 23 22,.f 24 3 1,.L 25 7 24,.op 26 (.call 193 [1,0] [(.t 23),(.t 25)]),.f 27 6 0,.s 100003 1 27 26]) (.q [.B 29 .eql 19 2,.m 28 29]
 (.cond 28 (.reg [.f 30 6 0,.l 31 30,.op 32 (.clos 195 (.t 3)),.op 33 (.vcall 194 195 [1,15] [(.t 31)] (.t 32)),.f 34 6 0,.s 100004 1 34 33]) (.q [.B 36 .eql 19 3,.m 35 36]
 (.c 35 (.reg [.f 37 3 9,.l 38 37,.f 39 6 1,.s 100005 1 39 38])))))))))
 (.norm [2,3,4,6] (x_i_Apply_1)))))⟩
theorem r_i_Apply {Te:TE} (c_i_copyTab:C_i_copyTab Te) (c_i_RecOk:C_i_RecOk Te) (c_i_TabOk:C_i_TabOk Te) (c_i_withRow:C_i_withRow Te) (c_z_DeleteFuncimplApply1:C_z_DeleteFuncimplApply1 Te) (c_i_withMark:C_i_withMark Te):C_i_Apply (RF Te x_i_Apply):=by
 intro t r ht hr
 have hL:=ht.len (by decide)
 have hLr:=(hr.len (by decide))
 have hci:=change_in ht hr
 have h1:=ht.1.1
 have h2:=ht.2
 refine X0 x_i_Apply.eq_1 ?_
 refine C0 (c_i_copyTab t hL) ?_
 refine C0 (c_i_RecOk r (hr.mono (by decide))) ?_
 cases g1:r.ok
 ·have e:t.apply r=(t,false):=by rw [TabV.apply,g1]; rfl
  exact F1 e
 refine G0 ?_
 refine C0 (c_i_TabOk t (ht.mono (by decide))) ?_
 cases g2:t.ok
 ·have e:t.apply r=(t,false):=by rw [TabV.apply,g1,g2]; rfl
  exact F1 e
 refine G0 ?_
 rcases kinds r.Kind with k | k | k | k
 all_goals
  try simp -implicitDefEqProofs (maxSteps:=1000000) only [go_sem,k]
  repeat refine ⟨sc,?_⟩
  try exact sf
 all_goals try (refine .of (c_i_withRow t.Rows r.R (by omega) hLr) ?_; simp -implicitDefEqProofs (maxSteps:=1000000) only [go_sem,take_all,take_marks])
 all_goals try (refine .of (c_z_DeleteFuncimplApply1 t.Rows r (by omega)) ?_; simp -implicitDefEqProofs (maxSteps:=1000000) only [go_sem,take_all,take_marks])
 all_goals cases w:decide (r.Who > 0)
 all_goals
  try simp -implicitDefEqProofs (maxSteps:=1000000) only [x_i_Apply_1,go_sem,w,take_all,take_marks]
 all_goals try (refine .of (c_i_withMark t.Marks ⟨r.Who,r.Seq,r.Code⟩ (by omega)) ?_; simp -implicitDefEqProofs (maxSteps:=1000000) only [go_sem,take_all,take_marks])
 all_goals
  have tk:=c_i_TabOk (t.change r) (hci.mono (by decide))
  simp only [TabV.change,TabV.put,k,w,cond_true,cond_false] at tk
  try simp -implicitDefEqProofs (maxSteps:=1000000) only [x_i_Apply_2,go_sem,take_all,take_marks]
  refine .of tk ?_
  cases g3:(t.change r).ok
 all_goals
  have g4:=g3
  simp only [TabV.change,TabV.put,k,w,cond_true,cond_false] at g4
  try simp -implicitDefEqProofs (maxSteps:=1000000) only [go_sem,g4,take_all,take_marks]
 all_goals try (refine .of (c_i_copyTab t hL) ?_; have e:t.apply r=(t,false):=(by rw [TabV.apply,g1,g2,g3]; rfl); simp -implicitDefEqProofs (maxSteps:=1000000) only [go_sem,e,take_all,take_marks])
 all_goals try (have e:t.apply r=(t.change r,true):=(by rw [TabV.apply,g1,g2,g3]; rfl); simp -implicitDefEqProofs (maxSteps:=1000000) only [go_sem,e,TabV.change,TabV.put,k,w,cond_true,cond_false,take_all,take_marks])
 all_goals try rfl
def x_s_l12Row:FnX:=⟨55,[.tmp 4],
  .q [.v 3 1,.op 4 (.mv (.k (.one (.nils 7))))]
 (.q [.op 8 (.bslice 7 []),.m 5 8]
 (.q [.F 6]
 (.seq (.q [.i 7 0]
 (.block 0 (.loop [0,3,5,6,7] (.seq (.q [.m 9 7,.m 10 0,.n 11 10,.b 12 .lss 9 11]
 (.cond 12 .skip (.exit 0)))
 (.seq (.block 1 (.seq (.seq (.draw [.m 15 6,.N 16 15,.m 17 16,.y 17 (.m 18 0),.y 17 (.m 19 7),.y 17 (.x 20 7 18 19),.y 17 (.f 21 20 0),.y 17 (.l 22 21),.y 17 (.f 23 3 0),.y 17 (.l 24 23),.y 17 (.b 25 .geq 22 24),.a 26 17 25] [[],[0],[1],[2],[2],[3,4,2],[5,2],[6,2],[2],[8,2],[7,9,2],[2,10]])
 (.c 26 (.q [.m 27 5,.L 28 7 3,.c 29 159 [28],.op 30 (.bslice 7 [(.t 29)]),.op 31 (.app 7 96 (.t 27) (.t 30)),.m 5 31]
 (.reg [.T 6]))))
 (.seq (.draw [.m 32 0,.m 33 7,.x 34 7 32 33,.f 35 34 0,.l 36 35,.f 37 3 0,.l 38 37,.b 39 .neq 36 38] [[],[],[0,1],[2],[3],[],[5],[4,6]])
 (.c 39 (.reg [.m 40 5,.m 41 0,.m 42 7,.x 43 7 41 42,.L 44 7 43,.op 45 (.bslice 7 [(.t 44)]),.op 46 (.app 7 96 (.t 40) (.t 45)),.m 5 46])))))
 (.reg [.m 13 7,.B 14 .add 13 1,.m 7 14]))))))
 (.norm [3,5,6] (.seq (.q [.m 47 6,.N 48 47]
 (.c 48 (.reg [.m 49 5,.L 50 7 3,.c 51 159 [50],.op 52 (.bslice 7 [(.t 51)]),.op 53 (.app 7 96 (.t 49) (.t 52)),.m 5 53])))
 (.q [.m 54 5,.m 4 54]
 .ret))))))⟩
theorem r_s_l12Row {Te:TE} (c_s_l9Copy:C_s_l9Copy Te):C_s_l12Row (RF Te x_s_l12Row):=by
 intro l r h hr
 refine X0 x_s_l12Row.eq_1 ?_
 refine loop_of (σ:=Nat×List RowV×Bool) (fun x=>⟨[(0,.one (.rf 0 0 [] 7 0 l.length)),(3,.bp 3 0),(5,.one (.rf 57 0 [] 7 0 x.2.1.length)),(6,.one (.pv (.bool x.2.2))),(7,.one (.pv (.int .i64 x.1)))],[(3,[.pv (.string r.Key),.pv (.int .i64 r.Old.Tag),.ro 1 (r.Old.B.map uR),.pv (.int .i64 r.New.Tag),.ro 1 (r.New.B.map uR),.pv (.int .i64 r.Has),.pv (.bool r.Aside)])],[(0,[Tr.sl true 7 () (leftRows r l x.1)]),(1,r.enc false),(57,[slT true 7 (RowV.enc true) x.2.1])]⟩) (fun x=>x.1≤l.length∧x.2=(l.take x.1).foldl (insR r) ([],false)) (fun x=>l.length - x.1) (0,[],false) ?_ ⟨Nat.zero_le _,rfl⟩ ?_
 ·simp -implicitDefEqProofs (maxSteps:=1000000) only [go_sem,left_zero]
  try rfl
 ·rintro ⟨i,o,p⟩ ⟨hi,he⟩
  simp only at hi he
  have hol:o.length≤2 * l.length:=by
   have:=insR_le r (l.take i) ([],false)
   rw [← he] at this
   simp only [List.length_nil,List.length_take] at this
   omega
  have ea:=app1Rw o r
  have et:List.take (o.length + 1) (List.map (RowV.enc true) (o++[r]))=List.map (RowV.enc true) (o++[r]):=List.take_of_length_le (by simp)
  cases q:decide ((i:Int) < (l.length:Int))
  ·have k0:i=l.length:=by simp only [decide_eq_false_iff_not] at q; omega
   rw [k0,List.take_length] at he
   subst k0
   cases p
   ·have e:insRow l r=o++[r]:=by rw [insRow,← he]; rfl
    refine G1 q ?_
    exact D3 (c_s_l9Copy r hr) e ea et
   ·have e:insRow l r=o:=by rw [insRow,← he]; rfl
    exact F2 q e
  ·have k1:i < l.length:=by simp only [decide_eq_true_eq] at q; omega
   have es:=insR_step (r:=r) k1
   rw [← he] at es
   have eg:=left_get (r:=r) k1
   have ed:(leftRows r l i).getD i []=l[i].enc true:=by rw [List.getD_eq_getElem?_getD,eg]; rfl
   have el:=left_len r l i
   have ex:=left_set (r:=r) k1
   have e1:∀ X:List T,((leftRows r l i).set i X)[i]?=some X:=fun X=>List.getElem?_set_self (by rw [el]; exact k1)
   have e2:∀ X:List T,((leftRows r l i).set i X).getD i []=X:=fun X=>by rw [List.getD_eq_getElem?_getD,e1]; rfl
   have eb:=app1Rw o l[i]
   have ec:=app1Rw (o++[r]) l[i]
   cases g2:decide (l[i].Key=r.Key) <;> cases g1:Op.bytesLess l[i].Key.toList r.Key.toList <;> cases p
   all_goals
    simp only [insR,g1,g2,Bool.not_true,Bool.not_false,Bool.and_true,Bool.and_false,Bool.or_true,Bool.or_false,Bool.true_or,Bool.false_or,Bool.true_and,Bool.false_and,if_true,if_false,Bool.false_eq_true] at es
    simp only [leftR,g2,if_true,if_false,Bool.false_eq_true] at ex
    try simp -implicitDefEqProofs (maxSteps:=1000000) only [go_sem,q,g1,g2,eg,ed,el,ex,e1,e2,List.set_set,List.length_set,take_rows,take_all,ea,eb,ec,et]
    repeat refine ⟨sc,?_⟩
   all_goals try (refine .of (c_s_l9Copy r hr) ?_; try simp -implicitDefEqProofs (maxSteps:=1000000) only [go_sem,g1,g2,eg,ed,el,ex,e1,e2,List.set_set,List.length_set,take_rows,take_all,ea,eb,ec,et])
   all_goals
    repeat refine ⟨sc,?_⟩
   all_goals
    refine ⟨(i + 1,(l.take (i + 1)).foldl (insR r) ([],false)),?_,⟨k1,rfl⟩,by simp only; omega⟩
    rw [← es,IntWalk.i64_in _ (by omega)]
    try simp only [List.length_append]
    try rw [left_same k1 g2]
    rfl
def x_s_SignOk:FnX:=⟨10,[.tmp 2],
  .q [.F 2]
 (.q [.m 3 0,.op 4 (.call 64 [0,0,0] [(.t 3),(.i 0),(.i 1114111)]),.m 5 4,.y 5 (.m 6 0),.y 5 (.op 7 (.call 64 [0,0,0] [(.t 6),(.i 55296),(.i 57343)])),.y 5 (.N 8 7),.a 9 5 8,.m 2 9]
 .ret)⟩
theorem r_s_SignOk {Te:TE} (c_s_l1In:C_s_l1In Te):C_s_SignOk (RF Te x_s_SignOk):=by
 intro n
 refine run0 ?_
 simp -implicitDefEqProofs (maxSteps:=1000000) only [x_s_SignOk,go_sem,signOk]
 repeat refine ⟨sc,?_⟩
 try exact sf
 refine C0 (c_s_l1In _ _ _) ?_
 cases g1:win n 0 1114111
 ·exact F0
 ·refine G0 ?_
  exact D0 (c_s_l1In _ _ _)
def x_i_SignOk:FnX:=⟨10,[.tmp 2],
  .q [.F 2]
 (.q [.m 3 0,.op 4 (.call 77 [0,0,0] [(.t 3),(.i 0),(.i 1114111)]),.m 5 4,.y 5 (.m 6 0),.y 5 (.op 7 (.call 77 [0,0,0] [(.t 6),(.i 55296),(.i 57343)])),.y 5 (.N 8 7),.a 9 5 8,.m 2 9]
 .ret)⟩
theorem r_i_SignOk {Te:TE} (c_i_within:C_i_within Te):C_i_SignOk (RF Te x_i_SignOk):=by
 intro n
 refine run0 ?_
 simp -implicitDefEqProofs (maxSteps:=1000000) only [x_i_SignOk,go_sem,signOk]
 repeat refine ⟨sc,?_⟩
 try exact sf
 refine C0 (c_i_within _ _ _) ?_
 cases g1:win n 0 1114111
 ·exact F0
 ·refine G0 ?_
  exact D0 (c_i_within _ _ _)
def x_s_PutSign:FnX:=⟨76,[.tmp 4],
  .q [.op 4 (.mv (.k (.one (.nils 1))))]
 (.q [.op 6 (.bslice 1 []),.m 7 0,.op 8 (.app 1 1 (.t 6) (.t 7)),.m 5 8]
 (.seq (.block 0 (.q [.m 10 1,.c 11 112 [10],.N 12 11,.m 9 12]
 (.cond 9 (.q [.m 13 5,.m 4 13]
 .ret) (.q [.m 15 1,.B 16 .leq 15 127,.m 14 16]
 (.cond 14 (.q [.m 17 5,.m 18 1,.op 19 (.conv (.int .u8) (.t 18)),.op 20 (.bslice 1 [(.t 19)]),.op 21 (.app 1 1 (.t 17) (.t 20)),.m 4 21]
 .ret) (.q [.m 23 1,.B 24 .leq 23 2047,.m 22 24]
 (.cond 22 (.q [.m 25 5,.m 26 1,.op 27 (.bin .shr (.t 26) (.k (.one (.pv (.int .u64 6))))),.op 28 (.bin .or (.i 192) (.t 27)),.op 29 (.conv (.int .u8) (.t 28)),.m 30 1,.B 31 .and 30 63,.op 32 (.bin .or (.i 128) (.t 31)),.op 33 (.conv (.int .u8) (.t 32)),.op 34 (.bslice 1 [(.t 29),(.t 33)]),.op 35 (.app 1 1 (.t 25) (.t 34)),.m 4 35]
 .ret) (.q [.m 37 1,.B 38 .leq 37 65535,.m 36 38]
 (.c 36 (.q [.m 39 5,.m 40 1,.op 41 (.bin .shr (.t 40) (.k (.one (.pv (.int .u64 12))))),.op 42 (.bin .or (.i 224) (.t 41)),.op 43 (.conv (.int .u8) (.t 42)),.m 44 1,.op 45 (.bin .shr (.t 44) (.k (.one (.pv (.int .u64 6))))),.B 46 .and 45 63,.op 47 (.bin .or (.i 128) (.t 46)),.op 48 (.conv (.int .u8) (.t 47)),.m 49 1,.B 50 .and 49 63,.op 51 (.bin .or (.i 128) (.t 50)),.op 52 (.conv (.int .u8) (.t 51)),.op 53 (.bslice 1 [(.t 43),(.t 48),(.t 52)]),.op 54 (.app 1 1 (.t 39) (.t 53)),.m 4 54]
 .ret))))))))))
 (.q [.m 55 5,.m 56 1,.op 57 (.bin .shr (.t 56) (.k (.one (.pv (.int .u64 18))))),.op 58 (.bin .or (.i 240) (.t 57)),.op 59 (.conv (.int .u8) (.t 58)),.m 60 1,.op 61 (.bin .shr (.t 60) (.k (.one (.pv (.int .u64 12))))),.B 62 .and 61 63,.op 63 (.bin .or (.i 128) (.t 62)),.op 64 (.conv (.int .u8) (.t 63)),.m 65 1,.op 66 (.bin .shr (.t 65) (.k (.one (.pv (.int .u64 6))))),.B 67 .and 66 63,.op 68 (.bin .or (.i 128) (.t 67)),.op 69 (.conv (.int .u8) (.t 68)),.m 70 1,.B 71 .and 70 63,.op 72 (.bin .or (.i 128) (.t 71)),.op 73 (.conv (.int .u8) (.t 72)),.op 74 (.bslice 1 [(.t 59),(.t 64),(.t 69),(.t 73)]),.op 75 (.app 1 1 (.t 55) (.t 74)),.m 4 75]
 .ret)))⟩
theorem r_s_PutSign {Te:TE} (c_s_SignOk:C_s_SignOk Te):C_s_PutSign (RF Te x_s_PutSign):=by
 intro b n hb
 cases hn:signOk n
 ·refine X0 x_s_PutSign.eq_1 ?_
  refine .of (c_s_SignOk _) ?_
  try simp -implicitDefEqProofs (maxSteps:=1000000) only [go_sem,putSign,hn,if_false]
  repeat refine ⟨sc,?_⟩
  try exact sf
  try rfl
 obtain ⟨h0,h1,_⟩:=signOk_in hn
 obtain ⟨m,rfl⟩:∃ m:Nat,n=m:=⟨n.toNat,by omega⟩
 have ep:putSign b (m:Int)=b++enc8 m:=by simp only [putSign,hn,if_true,Int.toNat_natCast]
 have d6:(m:Int).fdiv (2 ^ 6)=((m / 64:Nat):Int):=fdivN m 64
 have d12:(m:Int).fdiv (2 ^ 12)=((m / 4096:Nat):Int):=fdivN m 4096
 have d18:(m:Int).fdiv (2 ^ 18)=((m / 262144:Nat):Int):=fdivN m 262144
 have a0:=and63 m (by omega)
 have a6:=and63 (m / 64) (by omega)
 have a12:=and63 (m / 4096) (by omega)
 have o0:orK .i64 128 ((m % 64:Nat):Int)=((128 + m % 64:Nat):Int):=or_hd 128 6 2 rfl (by omega) (by omega)
 have o6:orK .i64 128 ((m / 64 % 64:Nat):Int)=((128 + m / 64 % 64:Nat):Int):=or_hd 128 6 2 rfl (by omega) (by omega)
 have o12:orK .i64 128 ((m / 4096 % 64:Nat):Int)=((128 + m / 4096 % 64:Nat):Int):=or_hd 128 6 2 rfl (by omega) (by omega)
 cases q:decide ((m:Int)≤127)
 ·have hq:¬ m≤127:=by simp only [decide_eq_false_iff_not] at q; omega
  cases q2:decide ((m:Int)≤2047)
  ·have hq2:¬ m≤2047:=by simp only [decide_eq_false_iff_not] at q2; omega
   cases q3:decide ((m:Int)≤65535)
   ·have hq3:¬ m≤65535:=by simp only [decide_eq_false_iff_not] at q3; omega
    have t:orK .i64 240 ((m / 262144:Nat):Int)=((240 + m / 262144:Nat):Int):=or_hd 240 3 30 rfl (by omega) (by omega)
    have ee:List.take (b.length + 4) (List.map uR b++[[uT (mkU ((240 + m / 262144:Nat):Int))],[uT (mkU ((128 + m / 4096 % 64:Nat):Int))],[uT (mkU ((128 + m / 64 % 64:Nat):Int))],[uT (mkU ((128 + m % 64:Nat):Int))]])=List.map uR (b++enc8 m):=by
     rw [List.take_of_length_le (by simp),mkU_nat,mkU_nat,mkU_nat,mkU_nat]
     simp only [enc8,if_neg hq,if_neg hq2,if_neg hq3,List.map_append,List.map_cons,List.map_nil]
    refine X0 x_s_PutSign.eq_1 ?_
    refine .of (c_s_SignOk _) ?_
    try simp -implicitDefEqProofs (maxSteps:=1000000) only [go_sem,hn,ep,q,q2,q3,show Nat.min 6 64=6 from rfl,show Nat.min 12 64=12 from rfl,show Nat.min 18 64=18 from rfl,d6,d12,d18,a0,a6,a12,o0,o6,o12,t,mkU_wrap,ee]
    repeat refine ⟨sc,?_⟩
    try exact sf
   ·have hq3:m≤65535:=by simp only [decide_eq_true_eq] at q3; omega
    have t:orK .i64 224 ((m / 4096:Nat):Int)=((224 + m / 4096:Nat):Int):=or_hd 224 4 14 rfl (by omega) (by omega)
    have ee:List.take (b.length + 3) (List.map uR b++[[uT (mkU ((224 + m / 4096:Nat):Int))],[uT (mkU ((128 + m / 64 % 64:Nat):Int))],[uT (mkU ((128 + m % 64:Nat):Int))]])=List.map uR (b++enc8 m):=by
     rw [List.take_of_length_le (by simp),mkU_nat,mkU_nat,mkU_nat]
     simp only [enc8,if_neg hq,if_neg hq2,if_pos hq3,List.map_append,List.map_cons,List.map_nil]
    refine X0 x_s_PutSign.eq_1 ?_
    refine .of (c_s_SignOk _) ?_
    try simp -implicitDefEqProofs (maxSteps:=1000000) only [go_sem,hn,ep,q,q2,q3,show Nat.min 6 64=6 from rfl,show Nat.min 12 64=12 from rfl,d6,d12,a0,a6,o0,o6,t,mkU_wrap,ee]
    repeat refine ⟨sc,?_⟩
    try exact sf
  ·have hq2:m≤2047:=by simp only [decide_eq_true_eq] at q2; omega
   have t:orK .i64 192 ((m / 64:Nat):Int)=((192 + m / 64:Nat):Int):=or_hd 192 6 3 rfl (by omega) (by omega)
   have ee:List.take (b.length + 2) (List.map uR b++[[uT (mkU ((192 + m / 64:Nat):Int))],[uT (mkU ((128 + m % 64:Nat):Int))]])=List.map uR (b++enc8 m):=by
    rw [List.take_of_length_le (by simp),mkU_nat,mkU_nat]
    simp only [enc8,if_neg hq,if_pos hq2,List.map_append,List.map_cons,List.map_nil]
   refine X0 x_s_PutSign.eq_1 ?_
   refine .of (c_s_SignOk _) ?_
   try simp -implicitDefEqProofs (maxSteps:=1000000) only [go_sem,hn,ep,q,q2,show Nat.min 6 64=6 from rfl,d6,a0,o0,t,mkU_wrap,ee]
   repeat refine ⟨sc,?_⟩
   try exact sf
 ·have hq:m≤127:=by simp only [decide_eq_true_eq] at q; omega
  have ee:List.take (b.length + 1) (List.map uR b++[[uT (mkU (m:Int))]])=List.map uR (b++enc8 m):=by
   rw [List.take_of_length_le (by simp),mkU_nat]
   simp only [enc8,if_pos hq,List.map_append,List.map_cons,List.map_nil]
  refine X0 x_s_PutSign.eq_1 ?_
  refine .of (c_s_SignOk _) ?_
  try simp -implicitDefEqProofs (maxSteps:=1000000) only [go_sem,hn,ep,q,mkU_wrap,ee]
  repeat refine ⟨sc,?_⟩
  try exact sf
def x_i_WriteSec:FnX:=⟨56,[.cell 6 (some 4)],
  .q [.v 3 0,.op 6 (.alloc [.nils 1,.nils 2,.i 0,.F])]
 (.q [.L 9 4 3,.c 10 130 [9],.op 7 (.alloc [.nils 1,.nils 2,.i 0,.F]),.s 100001 4 7 10]
 (.seq (.q [.L 11 4 3,.c 12 184 [11],.N 13 12,.m 14 13,.z 14 (.f 15 3 3),.z 14 (.l 16 15),.r 17 14 16,.m 18 17,.z 18 (.m 19 1),.z 18 (.f 20 3 0),.z 18 (.l 21 20),.z 18 (.n 22 21),.z 18 (.B 23 .sub 22 1),.z 18 (.op 24 (.call 77 [0,0,0] [(.t 19),(.i 0),(.t 23)])),.z 18 (.N 25 24),.r 26 18 25,.m 27 26,.z 27 (.m 28 2),.z 27 (.n 29 28),.z 27 (.B 30 .gtr 29 120),.r 31 27 30,.m 32 31,.z 32 (.f 33 3 1),.z 32 (.l 34 33),.z 32 (.n 35 34),.z 32 (.B 36 .eql 35 40),.r 37 32 36]
 (.c 37 (.q [.L 38 4 7,.s 100002 4 6 38]
 .ret)))
 (.q [.L 40 4 7,.op 41 (.call 199 [1] [(.t 40)]),.m 39 41,.e 42 39 0,.e 43 39 1,.s 100003 4 7 42,.m 8 43]
 (.seq (.q [.m 44 8]
 (.c 44 (.draw [.f 45 7 1,.l 46 45,.m 47 1,.m 48 2,.op 49 (.bslice 1 [(.t 48)]),.c 50 37 [49],.op 51 (.build [.i 0,.nils 1] [(0,1,(.t 47)),(1,1,(.t 50))]),.op 52 (.bslice 2 [(.t 51)]),.op 53 (.app 2 32 (.t 46) (.t 52)),.f 54 7 1,.s 100004 1 54 53] [[],[0],[],[],[3],[4],[2,5],[6],[1,7,5],[0,1,2,3,4,5,6,7,8],[9,8,8,0,1,2,3,4,5,6,7,8]])))
 (.q [.L 55 4 7,.s 100005 4 6 55]
 .ret)))))⟩
theorem r_i_WriteSec {Te:TE} (c_i_copyDev:C_i_copyDev Te) (c_i_DevOk:C_i_DevOk Te) (c_i_within:C_i_within Te) (c_i_burn:C_i_burn Te) (c_i_joined:C_i_joined Te):C_i_WriteSec (RF Te x_i_WriteSec):=by
 intro d n b hk hb
 have hin:=DevV.ok_in hk
 have hL:=hin.len (by decide)
 have hl:=hin.1.1
 have h40:=DevV.ok_cache hk
 have ws:IntKind.i64.wrap ((d.Secs.length:Int) - 1)=(d.Secs.length:Int) - 1:=IntWalk.i64_in _ (by omega)
 refine X0 x_i_WriteSec.eq_1 ?_
 refine C0 (c_i_copyDev d hL) ?_
 refine C1 (c_i_DevOk d (hin.mono (by decide))) hk ?_
 cases g1:d.Down
 rotate_left
 ·have e:=full_down (n:=n) (b:=b) g1
  try simp -implicitDefEqProofs (maxSteps:=1000000) only [go_sem,g1,e,take_all,DevV.enc]
  repeat refine ⟨sc,?_⟩
  try exact sf
  try rfl
 refine G2 g1 ws ?_
 refine C0 (c_i_within _ _ _) ?_
 cases g2:win n 0 ((d.Secs.length:Int) - 1)
 ·have e:=full_win (b:=b) g2
  try simp -implicitDefEqProofs (maxSteps:=1000000) only [go_sem,e,take_all,g1,DevV.enc]
  repeat refine ⟨sc,?_⟩
  try exact sf
  try rfl
 cases g3:decide ((b.length:Int) > 120)
 rotate_left
 ·have e:=full_len (d:=d) (n:=n) g3
  try simp -implicitDefEqProofs (maxSteps:=1000000) only [go_sem,g3,e,take_all,g1,DevV.enc]
  repeat refine ⟨sc,?_⟩
  try exact sf
  try rfl
 cases g4:decide ((d.Cache.length:Int)≥40)
 rotate_left
 ·have g5:((d.Cache.length:Int)==40)=true:=by simp only [decide_eq_true_eq] at g4; simp only [beq_iff_eq]; omega
  have e:=full_cache (n:=n) (b:=b) g4
  try simp -implicitDefEqProofs (maxSteps:=1000000) only [go_sem,g3,g5,e,take_all,g1,DevV.enc]
  repeat refine ⟨sc,?_⟩
  try exact sf
  try rfl
 have g5:((d.Cache.length:Int)==40)=false:=by simp only [decide_eq_false_iff_not] at g4; simp only [beq_eq_false_iff_ne]; omega
 have e:=not_full g1 g2 g3 g4
 refine G2 g3 g5 ?_
 have tb:=c_i_burn d
 simp only [DevV.enc,g1] at tb
 have bc:=burn_cache d
 have g40:d.burn.Cache.length < 40:=by rw [bc]; simp only [decide_eq_false_iff_not] at g4; omega
 cases g6:(d.Fuse==0)
 ·have g7:¬ d.Fuse=0:=by simpa using g6
  rw [if_neg g7] at e
  have ea:=app1W d.burn.Cache ⟨n,b⟩
  have et:List.take (d.burn.Cache.length + 1) (List.map (WrV.enc true) (d.burn.Cache++[⟨n,b⟩]))=List.map (WrV.enc true) (d.burn.Cache++[⟨n,b⟩]):=List.take_of_length_le (by simp)
  refine C1 (tb) g6 ?_
  refine .of (c_i_joined [b] (by rw [flat1]; omega) (by show 1≤2 ^ 31; decide)) ?_
  try simp -implicitDefEqProofs (maxSteps:=1000000) only [go_sem,flat1,take_all,ea,et,e,g1,DevV.put,DevV.enc]
  repeat refine ⟨sc,?_⟩
  try exact sf
  try rfl
 ·have g7:d.Fuse=0:=by simpa using g6
  rw [if_pos g7] at e
  refine .of (tb) ?_
  try simp -implicitDefEqProofs (maxSteps:=1000000) only [go_sem,g6,take_all,e,g1,DevV.enc]
  repeat refine ⟨sc,?_⟩
  try exact sf
  try rfl
def x_s_l10Write:FnX:=⟨53,[],
  .seq (.q [.m 6 0,.op 7 (.nilc (.t 6)),.f 8 7 3,.l 9 8,.m 10 9,.z 10 (.m 11 1),.z 10 (.m 12 0),.z 10 (.op 13 (.nilc (.t 12))),.z 10 (.f 14 13 0),.z 10 (.l 15 14),.z 10 (.n 16 15),.z 10 (.B 17 .sub 16 1),.z 10 (.op 18 (.call 64 [0,0,0] [(.t 11),(.i 0),(.t 17)])),.z 10 (.N 19 18),.r 20 10 19,.m 21 20,.z 21 (.m 22 2),.z 21 (.n 23 22),.z 21 (.B 24 .gtr 23 120),.r 25 21 24,.m 26 25,.z 26 (.m 27 0),.z 26 (.op 28 (.nilc (.t 27))),.z 26 (.f 29 28 1),.z 26 (.l 30 29),.z 26 (.n 31 30),.z 26 (.B 32 .geq 31 40),.r 33 26 32,.m 34 33,.z 34 (.m 35 0),.z 34 (.op 36 (.call 119 [6] [(.t 35)])),.z 34 (.N 37 36),.r 38 34 37]
 (.c 38 .ret))
 (.draw [.m 39 0,.m 40 0,.op 41 (.nilc (.t 40)),.f 42 41 1,.l 43 42,.m 44 1,.op 45 (.bslice 1 []),.m 46 2,.op 47 (.app 1 1 (.t 45) (.t 46)),.op 48 (.build [.i 0,.nils 1] [(0,1,(.t 44)),(1,1,(.t 47))]),.op 49 (.bslice 2 [(.t 48)]),.op 50 (.app 2 32 (.t 43) (.t 49)),.op 51 (.nilc (.t 39)),.f 52 51 1,.s 100001 1 52 50] [[],[],[1],[2],[3],[],[],[],[6,7],[5,8],[9],[4,10,8],[0,0,1,2,3,4,5,6,7,8,9,10,11],[12,0,1,2,3,4,5,6,7,8,9,10,11],[13,11,11,0,1,2,3,4,5,6,7,8,9,10,11]])⟩
theorem r_s_l10Write {Te:TE} (c_s_l1In:C_s_l1In Te) (c_s_l10Op:C_s_l10Op Te):C_s_l10Write (RF Te x_s_l10Write):=by
 intro d n b hd hb
 obtain ⟨hl,hc⟩:=hd
 have ws:IntKind.i64.wrap ((d.Secs.length:Int) - 1)=(d.Secs.length:Int) - 1:=IntWalk.i64_in _ (by omega)
 refine X0 x_s_l10Write.eq_1 ?_
 cases g1:d.Down
 rotate_left
 ·have e:=full_down (n:=n) (b:=b) g1
  try simp -implicitDefEqProofs (maxSteps:=1000000) only [go_sem,g1,e,take_all,DevV.enc]
  repeat refine ⟨sc,?_⟩
  try exact sf
  try rfl
 refine G2 g1 ws ?_
 refine C0 (c_s_l1In _ _ _) ?_
 cases g2:win n 0 ((d.Secs.length:Int) - 1)
 ·have e:=full_win (b:=b) g2
  try simp -implicitDefEqProofs (maxSteps:=1000000) only [go_sem,e,take_all,g1,DevV.enc]
  repeat refine ⟨sc,?_⟩
  try exact sf
  try rfl
 cases g3:decide ((b.length:Int) > 120)
 rotate_left
 ·have e:=full_len (d:=d) (n:=n) g3
  try simp -implicitDefEqProofs (maxSteps:=1000000) only [go_sem,g3,e,take_all,g1,DevV.enc]
  repeat refine ⟨sc,?_⟩
  try exact sf
  try rfl
 cases g4:decide ((d.Cache.length:Int)≥40)
 rotate_left
 ·have e:=full_cache (n:=n) (b:=b) g4
  try simp -implicitDefEqProofs (maxSteps:=1000000) only [go_sem,g3,g4,e,take_all,g1,DevV.enc]
  repeat refine ⟨sc,?_⟩
  try exact sf
  try rfl
 have e:=not_full g1 g2 g3 g4
 refine G2 g3 g4 ?_
 have tb:=c_s_l10Op d
 simp only [DevV.enc,g1] at tb
 have bc:=burn_cache d
 have g40:d.burn.Cache.length < 40:=by rw [bc]; simp only [decide_eq_false_iff_not] at g4; omega
 cases g6:(d.Fuse==0)
 ·have g7:¬ d.Fuse=0:=by simpa using g6
  rw [if_neg g7] at e
  have ea:=app1W d.burn.Cache ⟨n,b⟩
  have et:List.take (d.burn.Cache.length + 1) (List.map (WrV.enc true) (d.burn.Cache++[⟨n,b⟩]))=List.map (WrV.enc true) (d.burn.Cache++[⟨n,b⟩]):=List.take_of_length_le (by simp)
  refine .of (tb) ?_
  try simp -implicitDefEqProofs (maxSteps:=1000000) only [go_sem,g6,take_all,take_rows,ea,et,e,g1,DevV.put,DevV.enc]
  repeat refine ⟨sc,?_⟩
  try exact sf
  try rfl
 ·have g7:d.Fuse=0:=by simpa using g6
  rw [if_pos g7] at e
  refine .of (tb) ?_
  try simp -implicitDefEqProofs (maxSteps:=1000000) only [go_sem,g6,take_all,e,g1,DevV.enc]
  repeat refine ⟨sc,?_⟩
  try exact sf
  try rfl
def x_i_FillRow:FnX:=⟨31,[.cell 2 (some 7)],
  .q [.v 1 0,.op 2 (.alloc [.e,.i 0,.nils 1,.i 0,.nils 1,.i 0,.F])]
 (.q [.L 6 7 1,.c 7 164 [6],.op 3 (.alloc [.e,.i 0,.nils 1,.i 0,.nils 1,.i 0,.F]),.s 100001 7 3 7]
 (.seq (.q [.L 8 7 1,.c 9 165 [8],.N 10 9,.m 11 10,.z 11 (.f 12 1 5),.z 11 (.l 13 12),.z 11 (.B 14 .neq 13 1),.r 15 11 14]
 (.c 15 (.q [.L 16 7 3,.s 100002 7 2 16]
 .ret)))
 (.q [.f 18 1 1,.L 19 2 18,.op 20 (.call 166 [0,0] [(.t 19),(.i 0)]),.m 17 20,.e 21 17 0,.e 22 17 1,.op 4 (.alloc [.i 0,.nils 1]),.s 100003 2 4 21,.m 5 22]
 (.seq (.q [.m 23 5,.N 24 23]
 (.c 24 (.q [.f 25 3 6,⟨none,none,100004,.store 1 (.t 25) .T⟩]
 (.q [.L 26 7 3,.s 100005 7 2 26]
 .ret))))
 (.q [.L 27 2 4,.f 28 3 3,.s 100006 2 28 27,.f 29 3 5,⟨none,none,100007,.store 1 (.t 29) (.i 3)⟩]
 (.q [.L 30 7 3,.s 100008 7 2 30]
 .ret))))))⟩
theorem r_i_FillRow {Te:TE} (c_i_copyRow:C_i_copyRow Te) (c_i_RowOk:C_i_RowOk Te) (c_i_Turn:C_i_Turn Te):C_i_FillRow (RF Te x_i_FillRow):=by
 intro r h
 have hL:=h.len (by decide)
 refine X0 x_i_FillRow.eq_1 ?_
 refine C0 (c_i_copyRow r hL) ?_
 refine C0 (c_i_RowOk r (h.mono (by decide))) ?_
 cases g1:r.ok
 ·have e:=fill_no (r:=r) (by rw [g1]; rfl)
  exact F1 e
 cases g2:(r.Has==1)
 ·have e:=fill_no (r:=r) (by rw [g1,g2]; rfl)
  try simp -implicitDefEqProofs (maxSteps:=1000000) only [go_sem,bne_eq,g2,e,take_rows]
  repeat refine ⟨sc,?_⟩
  try exact sf
  try rfl
 have g3:(r.ok&&(r.Has==1))=true:=by rw [g1,g2]; rfl
 try simp -implicitDefEqProofs (maxSteps:=1000000) only [go_sem,bne_eq,g2,take_rows]
 repeat refine ⟨sc,?_⟩
 try exact sf
 refine C0 (c_i_Turn r.Old 0 hL.1 (Nat.le_trans text_size (by decide))) ?_
 cases g4:(r.Old.turn 0).2
 ·have e:=fill_bad g3 g4
  exact F2 g4 e
 ·have e:=fill_yes g3 g4
  exact F2 g4 e
def x_s_FillRow:FnX:=⟨30,[.cell 2 (some 7)],
  .q [.v 1 0,.op 2 (.alloc [.e,.i 0,.nils 1,.i 0,.nils 1,.i 0,.F])]
 (.q [.L 6 7 1,.c 7 159 [6],.op 3 (.alloc [.e,.i 0,.nils 1,.i 0,.nils 1,.i 0,.F]),.s 100001 7 3 7]
 (.seq (.q [.L 8 7 1,.c 9 160 [8],.N 10 9,.m 11 10,.z 11 (.L 12 7 1),.z 11 (.c 13 161 [12]),.r 14 11 13]
 (.c 14 (.q [.L 15 7 3,.s 100002 7 2 15]
 .ret)))
 (.q [.f 17 1 1,.L 18 2 17,.op 19 (.call 162 [0,0] [(.t 18),(.i 0)]),.m 16 19,.e 20 16 0,.e 21 16 1,.op 4 (.alloc [.i 0,.nils 1]),.s 100003 2 4 20,.m 5 21]
 (.seq (.q [.m 22 5,.N 23 22]
 (.c 23 (.q [.f 24 3 6,⟨none,none,100004,.store 1 (.t 24) .T⟩]
 (.q [.L 25 7 3,.s 100005 7 2 25]
 .ret))))
 (.q [.L 26 2 4,.f 27 3 3,.s 100006 2 27 26]
 (.q [.f 28 3 5,⟨none,none,100007,.store 1 (.t 28) (.i 3)⟩]
 (.q [.L 29 7 3,.s 100008 7 2 29]
 .ret)))))))⟩
theorem r_s_FillRow {Te:TE} (c_s_l9Copy:C_s_l9Copy Te) (c_s_RowOk:C_s_RowOk Te) (c_s_l9New:C_s_l9New Te) (c_s_Turn:C_s_Turn Te):C_s_FillRow (RF Te x_s_FillRow):=by
 intro r h
 have hL:=h.len (by decide)
 refine X0 x_s_FillRow.eq_1 ?_
 refine C0 (c_s_l9Copy r hL) ?_
 refine C0 (c_s_RowOk r (h.mono (by decide))) ?_
 cases g1:r.ok
 ·have e:=fill_no (r:=r) (by rw [g1]; rfl)
  exact F1 e
 refine G0 ?_
 refine C0 (c_s_l9New r (rowOk_13 g1)) ?_
 cases g2:(r.Has==1)
 ·have e:=fill_no (r:=r) (by rw [g1,g2]; rfl)
  have g5:decide (r.Has≠1)=true:=decide_eq_true (by simpa using g2)
  exact F2 g5 e
 have g3:(r.ok&&(r.Has==1))=true:=by rw [g1,g2]; rfl
 have g5:decide (r.Has≠1)=false:=decide_eq_false (by simpa using g2)
 refine G1 g5 ?_
 refine C0 (c_s_Turn r.Old 0 hL.1 (Nat.le_trans text_size (by decide))) ?_
 cases g4:(r.Old.turn 0).2
 ·have e:=fill_bad g3 g4
  exact F2 g4 e
 ·have e:=fill_yes g3 g4
  exact F2 g4 e
def x_i_CutRow:FnX:=⟨18,[.cell 2 (some 7)],
  .q [.v 1 0,.op 2 (.alloc [.e,.i 0,.nils 1,.i 0,.nils 1,.i 0,.F])]
 (.q [.L 4 7 1,.c 5 164 [4],.op 3 (.alloc [.e,.i 0,.nils 1,.i 0,.nils 1,.i 0,.F]),.s 100001 7 3 5]
 (.seq (.q [.L 6 7 1,.c 7 165 [6],.m 8 7,.y 8 (.f 9 1 5),.y 8 (.l 10 9),.y 8 (.B 11 .neq 10 1),.a 12 8 11]
 (.c 12 (.reg [.op 13 (.build [.i 0,.nils 1] []),.f 14 3 1,.s 100002 2 14 13,.f 15 3 5,⟨none,none,100003,.store 1 (.t 15) (.i 2)⟩,.f 16 3 6,⟨none,none,100004,.store 1 (.t 16) .F⟩])))
 (.q [.L 17 7 3,.s 100005 7 2 17]
 .ret)))⟩
theorem r_i_CutRow {Te:TE} (c_i_copyRow:C_i_copyRow Te) (c_i_RowOk:C_i_RowOk Te):C_i_CutRow (RF Te x_i_CutRow):=by
 intro r h
 have hL:=h.len (by decide)
 refine X0 x_i_CutRow.eq_1 ?_
 refine C0 (c_i_copyRow r hL) ?_
 refine C0 (c_i_RowOk r (h.mono (by decide))) ?_
 cases g1:r.ok
 ·have e:=cut_no (r:=r) (by rw [g1]; rfl)
  exact F1 e
 cases g2:(r.Has==1)
 ·have e:=cut_yes (r:=r) (by rw [g1,g2]; rfl)
  try simp -implicitDefEqProofs (maxSteps:=1000000) only [go_sem,bne_eq,g2,e,take_rows]
  repeat refine ⟨sc,?_⟩
  try exact sf
  try rfl
 ·have e:=cut_no (r:=r) (by rw [g1,g2]; rfl)
  try simp -implicitDefEqProofs (maxSteps:=1000000) only [go_sem,bne_eq,g2,e,take_rows]
  repeat refine ⟨sc,?_⟩
  try exact sf
  try rfl
def x_s_CutRow:FnX:=⟨20,[.cell 2 (some 7)],
  .q [.v 1 0,.op 2 (.alloc [.e,.i 0,.nils 1,.i 0,.nils 1,.i 0,.F])]
 (.q [.L 4 7 1,.c 5 159 [4],.op 3 (.alloc [.e,.i 0,.nils 1,.i 0,.nils 1,.i 0,.F]),.s 100001 7 3 5]
 (.seq (.q [.L 6 7 1,.c 7 160 [6],.N 8 7,.m 9 8,.z 9 (.L 10 7 1),.z 9 (.c 11 161 [10]),.z 9 (.N 12 11),.r 13 9 12]
 (.c 13 (.q [.L 14 7 3,.s 100002 7 2 14]
 .ret)))
 (.q [.f 15 1 0,.l 16 15,.f 17 3 3,.L 18 2 17,.op 19 (.build [.e,.i 0,.nils 1,.i 0,.nils 1,.i 0,.F] [(0,1,(.t 16)),(3,2,(.t 18)),(5,1,(.i 2))]),.s 100003 7 2 19]
 .ret)))⟩
theorem r_s_CutRow {Te:TE} (c_s_l9Copy:C_s_l9Copy Te) (c_s_RowOk:C_s_RowOk Te) (c_s_l9New:C_s_l9New Te):C_s_CutRow (RF Te x_s_CutRow):=by
 intro r h
 have hL:=h.len (by decide)
 refine X0 x_s_CutRow.eq_1 ?_
 refine C0 (c_s_l9Copy r hL) ?_
 refine C0 (c_s_RowOk r (h.mono (by decide))) ?_
 cases g1:r.ok
 ·have e:=cut_no (r:=r) (by rw [g1]; rfl)
  exact F1 e
 refine G0 ?_
 refine C0 (c_s_l9New r (rowOk_13 g1)) ?_
 cases g2:(r.Has==1)
 ·have e:=cut_yes (r:=r) (by rw [g1,g2]; rfl)
  have g5:decide (r.Has≠1)=true:=decide_eq_true (by simpa using g2)
  exact F2 g5 e
 ·have e:=cut_no (r:=r) (by rw [g1,g2]; rfl)
  have g5:decide (r.Has≠1)=false:=decide_eq_false (by simpa using g2)
  exact F2 g5 e
def x_i_BackRow:FnX:=⟨24,[.cell 2 (some 7)],
  .q [.v 1 0,.op 2 (.alloc [.e,.i 0,.nils 1,.i 0,.nils 1,.i 0,.F])]
 (.q [.L 4 7 1,.c 5 164 [4],.op 3 (.alloc [.e,.i 0,.nils 1,.i 0,.nils 1,.i 0,.F]),.s 100001 7 3 5]
 (.seq (.block 0 (.q [.L 7 7 1,.c 8 165 [7],.N 9 8,.m 6 9]
 (.cond 6 .skip (.q [.f 11 1 5,.l 12 11,.B 13 .eql 12 3,.m 10 13]
 (.cond 10 (.reg [.op 14 (.build [.i 0,.nils 1] []),.f 15 3 3,.s 100002 2 15 14,.f 16 3 5,⟨none,none,100003,.store 1 (.t 16) (.i 1)⟩,.f 17 3 6,⟨none,none,100004,.store 1 (.t 17) .F⟩]) (.q [.f 19 1 5,.l 20 19,.B 21 .eql 20 2,.m 18 21]
 (.c 18 (.reg [.f 22 3 6,⟨none,none,100005,.store 1 (.t 22) .T⟩]))))))))
 (.q [.L 23 7 3,.s 100006 7 2 23]
 .ret)))⟩
theorem r_i_BackRow {Te:TE} (c_i_copyRow:C_i_copyRow Te) (c_i_RowOk:C_i_RowOk Te):C_i_BackRow (RF Te x_i_BackRow):=by
 intro r h
 have hL:=h.len (by decide)
 refine X0 x_i_BackRow.eq_1 ?_
 refine C0 (c_i_copyRow r hL) ?_
 refine C0 (c_i_RowOk r (h.mono (by decide))) ?_
 cases g1:r.ok
 ·have e:r.back=r:=by rw [RowV.back,g1]; rfl
  exact F1 e
 cases g3:(r.Has==3)
 ·cases g2:(r.Has==2)
  ·have e:r.back=r:=by rw [RowV.back,g1,g3,g2]; rfl
   exact F3 g3 g2 e
  ·have e:r.back=⟨r.Key,r.Old,r.New,r.Has,true⟩:=by rw [RowV.back,g1,g3,g2]; rfl
   exact F3 g3 g2 e
 ·have e:r.back=⟨r.Key,r.Old,⟨0,[]⟩,1,false⟩:=by rw [RowV.back,g1,g3]; rfl
  exact F2 g3 e
def x_l_toMarkS:FnX:=⟨23,[.tmp 2],
  .q [.op 2 (.mv (.k (.one (.nils 3))))]
 (.q [.m 5 0,.n 6 5,.op 7 (.mks 3 24 [.pv (.int .i64 0),.pv (.int .i64 0),.pv (.int .i64 0)] (.t 6)),.m 3 7]
 (.seq (.q [.i 4 0]
 (.block 0 (.loop [0,3,4] (.seq (.q [.m 8 4,.m 9 0,.n 10 9,.b 11 .lss 8 10]
 (.cond 11 .skip (.exit 0)))
 (.seq (.block 1 (.reg [.m 14 3,.m 15 4,.m 16 0,.m 17 4,.x 18 3 16 17,.L 19 3 18,.c 20 183 [19],.x 21 3 14 15,.s 100001 3 21 20]))
 (.reg [.m 12 4,.B 13 .add 12 1,.m 4 13]))))))
 (.norm [3] (.q [.m 22 3,.m 2 22]
 .ret))))⟩
theorem r_l_toMarkS {Te:TE} (c_l_toMark:C_l_toMark Te):C_l_toMarkS (RF Te x_l_toMarkS):=by
 intro l hl
 refine run0 ?_
 simp -implicitDefEqProofs (maxSteps:=1000000) (disch:=omega) only [x_l_toMarkS,go_sem,IntWalk.i64_in]
 refine ⟨⟨by simp only [decide_eq_true_eq]; omega,by simp only [decide_eq_true_eq]; omega⟩,?_⟩
 refine loop_of (σ:=Nat) (fun i=>⟨[(0,.one (.ro 3 (l.map MarkV.row))),(3,.one (.rf 24 0 [] 3 0 l.length)),(4,.one (.pv (.int .i64 i)))],[],
  [(0,[slT false 3 MarkV.row l]),(24,[.sl true 3 () ((l.take i).map MarkV.row++List.replicate (l.length - i) [.pv (.int .i64 0),.pv (.int .i64 0),.pv (.int .i64 0)])])]⟩) (fun i=>i≤l.length) (fun i=>l.length - i) 0 ?_ (Nat.zero_le _) ?_
 ·simp -implicitDefEqProofs (maxSteps:=1000000) only [go_sem]; rfl
 ·intro i hi
  simp -implicitDefEqProofs (maxSteps:=1000000) only [go_sem]
  refine ⟨fun h=>?_,fun h=>?_⟩
  ·have hi':i < l.length:=by simp only [decide_eq_true_eq] at h; omega
   simp -implicitDefEqProofs (maxSteps:=1000000) only [go_sem,List.getElem?_eq_getElem hi',fill_len MarkV.row l [.pv (.int .i64 0),.pv (.int .i64 0),.pv (.int .i64 0)] hi,storeAp,setCells,List.getD_eq_getElem?_getD,fill_get MarkV.row l [.pv (.int .i64 0),.pv (.int .i64 0),.pv (.int .i64 0)] hi']
   refine .of (c_l_toMark _) ?_
   simp -implicitDefEqProofs (maxSteps:=1000000) only [go_sem,fill_len MarkV.row l [.pv (.int .i64 0),.pv (.int .i64 0),.pv (.int .i64 0)] hi,storeAp,setCells,List.getD_eq_getElem?_getD,fill_get MarkV.row l [.pv (.int .i64 0),.pv (.int .i64 0),.pv (.int .i64 0)] hi']
   repeat (first | refine ⟨by decide,?_⟩ | refine ⟨by simpa using hi',?_⟩)
   refine ⟨i + 1,?_,hi',by omega⟩
   rw [← fill_set MarkV.row l [.pv (.int .i64 0),.pv (.int .i64 0),.pv (.int .i64 0)] hi',IntWalk.i64_in _ (by omega)]
   rfl
  ·have:i=l.length:=by simp only [decide_eq_false_iff_not] at h; omega
   subst this
   simp -implicitDefEqProofs (maxSteps:=1000000) only [go_sem,fill_len MarkV.row l [.pv (.int .i64 0),.pv (.int .i64 0),.pv (.int .i64 0)] hi,fill_end]
   refine ⟨by simp,?_⟩
   simp [take_map]
def x_l_eqMarkS:FnX:=⟨27,[.tmp 4],
  .q [.F 4]
 (.seq (.q [.m 6 0,.n 7 6,.m 8 1,.n 9 8,.b 10 .neq 7 9]
 (.c 10 (.q [.F 4]
 .ret)))
 (.seq (.q [.i 5 0]
 (.block 0 (.loop [0,1,5] (.seq (.q [.m 11 5,.m 12 0,.n 13 12,.b 14 .lss 11 13]
 (.cond 14 .skip (.exit 0)))
 (.seq (.block 1 (.seq (.draw [.m 17 0,.m 18 5,.x 19 3 17 18,.L 20 3 19,.m 21 1,.m 22 5,.x 23 3 21 22,.L 24 3 23,.c 25 207 [20,24],.N 26 25] [[],[],[0,1],[2],[],[],[4,5],[6],[3,7],[8]])
 (.c 26 (.q [.F 4]
 .ret))))
 (.reg [.m 15 5,.B 16 .add 15 1,.m 5 16]))))))
 (.norm [] (.q [.T 4]
 .ret))))⟩
theorem r_l_eqMarkS {Te:TE} (c_l_eqMark:C_l_eqMark Te):C_l_eqMarkS (RF Te x_l_eqMarkS):=by
 intro l m hl
 refine run0 ?_
 simp -implicitDefEqProofs (maxSteps:=1000000) (disch:=omega) only [x_l_eqMarkS,go_sem,IntWalk.i64_in]
 refine ⟨fun h=>?_,fun h=>?_⟩
 ·have:l≠m:=fun e=>by simp [e] at h
  simp [this]
 ·have hlen:l.length=m.length:=by simp at h; omega
  refine loop_of (σ:=Nat) (fun i=>⟨[(0,.one (.ro 3 (l.map MarkV.row))),(1,.one (.ro 3 (m.map MarkV.row))),(5,.one (.pv (.int .i64 i)))],[],[(0,[slT false 3 MarkV.row l]),(1,[slT false 3 MarkV.row m])]⟩) (fun i=>i≤l.length∧l.take i=m.take i) (fun i=>l.length - i) 0 ?_ ⟨Nat.zero_le _,by simp⟩ ?_
  ·simp -implicitDefEqProofs (maxSteps:=1000000) only [go_sem]; rfl
  ·intro i ⟨hi,hs⟩
   simp -implicitDefEqProofs (maxSteps:=1000000) only [go_sem]
   refine ⟨fun h=>?_,fun h=>?_⟩
   ·have hi':i < l.length:=by simp only [decide_eq_true_eq] at h; omega
    have hj':i < m.length:=by omega
    simp -implicitDefEqProofs (maxSteps:=1000000) only [go_sem,List.getElem?_eq_getElem hi',List.getElem?_eq_getElem hj']
    refine .of (c_l_eqMark _ _) ?_
    simp -implicitDefEqProofs (maxSteps:=1000000) only [go_sem]
    refine ⟨by decide,fun h2=>?_,fun h2=>?_⟩
    ·have:l≠m:=fun e=>by subst e; simp at h2
     simp [this]
    ·refine ⟨i + 1,by rw [IntWalk.i64_in _ (by omega)]; rfl,⟨hi',same_step hi' hj' hs ?_⟩,by omega⟩
     simpa using h2
   ·have hle:l.length≤i:=by simp only [decide_eq_false_iff_not] at h; omega
    have:l=m:=same_end hle (by omega) hs
    simp [this]
def x_l_markMarkS_2:XCode:=.q [.m 26 0,.m 27 5,.m 28 1,.x 29 3 26 27,.f 30 29 2,.s 100003 1 30 28]
 (.reg [.m 31 1,.B 32 .add 31 1,.m 1 32])
def x_l_markMarkS_1:XCode:=.q [.m 19 0,.m 20 5,.m 21 1,.x 22 3 19 20,.f 23 22 1,.s 100002 1 23 21]
 (.q [.m 24 1,.B 25 .add 24 1,.m 1 25]
 x_l_markMarkS_2)
def x_l_markMarkS:FnX:=⟨34,[.tmp 4],
  .q [.i 4 0]
 (.seq (.q [.i 5 0]
 (.block 0 (.loop [0,1,5] (.seq (.q [.m 6 5,.m 7 0,.n 8 7,.b 9 .lss 6 8]
 (.cond 9 .skip (.exit 0)))
 (.seq (.block 1 (.q [.m 12 0,.m 13 5,.m 14 1,.x 15 3 12 13,.f 16 15 0,.s 100001 1 16 14]
 (.q [.m 17 1,.B 18 .add 17 1,.m 1 18]
 x_l_markMarkS_1)))
 (.reg [.m 10 5,.B 11 .add 10 1,.m 5 11]))))))
 (.norm [1] (.q [.m 33 1,.m 4 33]
 .ret)))⟩
theorem r_l_markMarkS {Te:TE}:C_l_markMarkS (RF Te x_l_markMarkS):=by
 intro l k hl hk
 refine run0 ?_
 simp -implicitDefEqProofs (maxSteps:=1000000) (disch:=omega) only [x_l_markMarkS,go_sem,IntWalk.i64_in]
 refine loop_of (σ:=Nat) (fun i=>⟨[(0,.one (.rf 0 0 [] 3 0 l.length)),(1,.one (.pv (.int .i64 (k + (3 * i:Nat))))),(5,.one (.pv (.int .i64 i)))],[],[(0,[.sl true 3 () ((marks 3 mkMark i k).map MarkV.row++(l.drop i).map MarkV.row)]),(1,[iT k])]⟩) (fun i=>i≤l.length) (fun i=>l.length - i) 0 ?_ (Nat.zero_le _) ?_
 ·simp -implicitDefEqProofs (maxSteps:=1000000) only [go_sem]; simp [marks]
 ·intro i hi
  simp -implicitDefEqProofs (maxSteps:=1000000) only [go_sem]
  refine ⟨fun h=>?_,fun h=>?_⟩
  ·have hi':i < l.length:=by simp only [decide_eq_true_eq] at h; omega
   try simp -implicitDefEqProofs (maxSteps:=1000000) (disch:=omega) only [go_sem,storeAp,setCells,List.length_set,List.set_set,mark_len MarkV.row 3 mkMark l k hi,List.getD_eq_getElem?_getD,mark_get MarkV.row 3 mkMark l k hi',mark_reget MarkV.row 3 mkMark l k hi',Option.getD_some,IntWalk.i64_in]
   repeat (first | refine ⟨by decide,?_⟩ | refine ⟨decide_eq_true hi',?_⟩)
   simp -implicitDefEqProofs (maxSteps:=1000000) (disch:=omega) only [x_l_markMarkS_1,go_sem,storeAp,setCells,List.length_set,List.set_set,mark_len MarkV.row 3 mkMark l k hi,List.getD_eq_getElem?_getD,mark_get MarkV.row 3 mkMark l k hi',mark_reget MarkV.row 3 mkMark l k hi',Option.getD_some,IntWalk.i64_in]
   repeat (first | refine ⟨by decide,?_⟩ | refine ⟨decide_eq_true hi',?_⟩)
   simp -implicitDefEqProofs (maxSteps:=1000000) (disch:=omega) only [x_l_markMarkS_2,go_sem,storeAp,setCells,List.length_set,List.set_set,mark_len MarkV.row 3 mkMark l k hi,List.getD_eq_getElem?_getD,mark_get MarkV.row 3 mkMark l k hi',mark_reget MarkV.row 3 mkMark l k hi',Option.getD_some,IntWalk.i64_in]
   repeat (first | refine ⟨by decide,?_⟩ | refine ⟨decide_eq_true hi',?_⟩)
   refine ⟨i + 1,?_,hi',by omega⟩
   rw [← mark_set MarkV.row 3 mkMark l k hi',show k + ((3 * (i + 1):Nat):Int)=k + (3 * i:Nat) + 1 + 1 + 1 by omega]
   rfl
  ·have:i=l.length:=by simp only [decide_eq_false_iff_not] at h; omega
   subst this
   simp -implicitDefEqProofs (maxSteps:=1000000) only [go_sem,mark_end]
def x_i_rowsBehind:FnX:=⟨26,[.tmp 4],
  .q [.v 2 0,.op 4 (.mv (.k (.one (.nils 7))))]
 (.q [.op 8 (.bslice 7 []),.m 5 8]
 (.seq (.q [.f 9 2 0,.l 10 9,.n 11 10,.i 12 0]
 (.block 0 (.loop [1,5,10,11,12] (.q [.b 13 .lss 12 11]
 (.seq (.cond 13 .skip (.exit 0))
 (.seq (.block 1 (.q [.x 14 7 10 12,.L 15 7 14,.op 7 (.alloc [.e,.i 0,.nils 1,.i 0,.nils 1,.i 0,.F]),.s 100001 7 7 15]
 (.q [.f 16 7 0,.l 17 16,.m 18 1,.b 19 .gtr 17 18]
 (.c 19 (.reg [.m 20 5,.L 21 7 7,.op 22 (.bslice 7 [(.t 21)]),.op 23 (.app 7 96 (.t 20) (.t 22)),.m 5 23])))))
 (.reg [.B 24 .add 12 1,.m 12 24])))))))
 (.norm [5] (.q [.m 25 5,.m 4 25]
 .ret))))⟩
theorem r_i_rowsBehind {Te:TE}:C_i_rowsBehind (RF Te x_i_rowsBehind):=by
 intro t f hl
 refine X0 x_i_rowsBehind.eq_1 ?_
 refine loop_of (σ:=Nat) (fun i=>⟨[(1,.one (.pv (.string f))),(5,.one (.rf 28 0 [] 7 0 (behind f (t.Rows.take i)).length)),(10,.one (.ro 7 (t.Rows.map (RowV.enc false)))),(11,.one (.pv (.int .i64 t.Rows.length))),(12,.one (.pv (.int .i64 i)))],[],[(0,t.enc false),(1,[sT f]),(28,[slT true 7 (RowV.enc false) (behind f (t.Rows.take i))])]⟩) (fun i=>i≤t.Rows.length) (fun i=>t.Rows.length - i) 0 ?_ (Nat.zero_le _) ?_
 ·simp -implicitDefEqProofs (maxSteps:=1000000) only [go_sem]
  try rfl
 ·intro i hi
  have hb:(behind f (t.Rows.take i)).length≤i:=Nat.le_trans (List.length_filter_le _ _) (by rw [List.length_take]; omega)
  cases q:decide ((i:Int) < (t.Rows.length:Int))
  ·have e:t.Rows.take i=t.Rows:=List.take_of_length_le (by simp only [decide_eq_false_iff_not] at q; omega)
   rw [e]
   exact F1 q
  ·have k1:i < t.Rows.length:=by simp only [decide_eq_true_eq] at q; omega
   have es:=behind_step (f:=f) k1
   cases g:isBehind f t.Rows[i].Key
   ·have g':=g
    rw [isBehind] at g'
    rw [g,cond_false,List.append_nil] at es
    refine G3 q (List.getElem?_eq_getElem k1) g' ?_
    refine ⟨i + 1,?_,k1,by omega⟩
    rw [es,IntWalk.i64_in _ (by omega)]
    rfl
   ·have g':=g
    rw [isBehind] at g'
    rw [g,cond_true] at es
    refine G3 q (List.getElem?_eq_getElem k1) g' ?_
    refine ⟨i + 1,?_,k1,by omega⟩
    rw [es,IntWalk.i64_in _ (by omega),List.length_append]
    simp only [slT,List.map_append]
    rfl
def x_s_l12SameCell:FnX:=⟨19,[.tmp 4],
  .q [.v 2 0,.v 3 1,.F 4]
 (.q [.f 5 2 0,.l 6 5,.f 7 3 0,.l 8 7,.b 9 .eql 6 8,.m 10 9,.y 10 (.f 11 2 1),.y 10 (.l 12 11),.y 10 (.op 13 (.conv .b2s (.t 12))),.y 10 (.f 14 3 1),.y 10 (.l 15 14),.y 10 (.op 16 (.conv .b2s (.t 15))),.y 10 (.b 17 .eql 13 16),.a 18 10 17,.m 4 18]
 .ret)⟩
theorem r_s_l12SameCell {Te:TE}:C_s_l12SameCell (RF Te x_s_l12SameCell):=by
 intro a c
 refine run0 ?_
 cases g:(a.Tag==c.Tag)
 ·simp -implicitDefEqProofs (maxSteps:=1000000) only [x_s_l12SameCell,go_sem,g]
  repeat refine ⟨sc,?_⟩
  try exact sf
 ·have ea:=areBytes_uR a.B
  have ec:=areBytes_uR c.B
  have fa:=bytesOf_uR a.B
  have fc:=bytesOf_uR c.B
  simp -implicitDefEqProofs (maxSteps:=1000000) only [x_s_l12SameCell,go_sem,g,ea,ec,fa,fc,bytes_beq,bytes_lists]
  repeat refine ⟨sc,?_⟩
  try exact sf
def x_s_l12SameRow:FnX:=⟨38,[.tmp 4],
  .q [.v 2 0,.v 3 1,.F 4]
 (.q [.f 5 2 0,.l 6 5,.f 7 3 0,.l 8 7,.b 9 .eql 6 8,.m 10 9,.y 10 (.f 11 2 1),.y 10 (.L 12 2 11),.y 10 (.f 13 3 1),.y 10 (.L 14 2 13),.y 10 (.c 15 97 [12,14]),.a 16 10 15,.m 17 16,.y 17 (.f 18 2 3),.y 17 (.L 19 2 18),.y 17 (.f 20 3 3),.y 17 (.L 21 2 20),.y 17 (.c 22 97 [19,21]),.a 23 17 22,.m 24 23,.y 24 (.f 25 2 5),.y 24 (.l 26 25),.y 24 (.f 27 3 5),.y 24 (.l 28 27),.y 24 (.b 29 .eql 26 28),.a 30 24 29,.m 31 30,.y 31 (.f 32 2 6),.y 31 (.l 33 32),.y 31 (.f 34 3 6),.y 31 (.l 35 34),.y 31 (.op 36 (.beq false (.t 33) (.t 35))),.a 37 31 36,.m 4 37]
 .ret)⟩
theorem r_s_l12SameRow {Te:TE} (c_s_l12SameCell:C_s_l12SameCell Te):C_s_l12SameRow (RF Te x_s_l12SameRow):=by
 intro a c
 refine run0 ?_
 simp -implicitDefEqProofs (maxSteps:=1000000) only [x_s_l12SameRow,go_sem,bytes_beq]
 repeat refine ⟨sc,?_⟩
 try exact sf
 cases g1:decide (a.Key=c.Key)
 ·try simp -implicitDefEqProofs (maxSteps:=1000000) only [go_sem,g1,rowSame]
  repeat refine ⟨sc,?_⟩
  try exact sf
 refine G1 g1 ?_
 have t1:=c_s_l12SameCell a.Old c.Old
 have t2:=c_s_l12SameCell a.New c.New
 rw [← cellSame] at t1 t2
 refine .of t1 ?_
 cases g2:cellSame a.Old c.Old
 ·try simp -implicitDefEqProofs (maxSteps:=1000000) only [go_sem,g1,g2,rowSame]
  repeat refine ⟨sc,?_⟩
  try exact sf
 refine G0 ?_
 refine .of t2 ?_
 cases g3:cellSame a.New c.New
 ·try simp -implicitDefEqProofs (maxSteps:=1000000) only [go_sem,g1,g2,g3,rowSame]
  repeat refine ⟨sc,?_⟩
  try exact sf
 refine G0 ?_
 cases g4:(a.Has==c.Has)
 ·try simp -implicitDefEqProofs (maxSteps:=1000000) only [go_sem,g1,g2,g3,g4,rowSame]
  repeat refine ⟨sc,?_⟩
  try exact sf
 have e9:∀ c:Bool,(c != false)=c:=fun c=>by cases c <;> rfl
 try simp -implicitDefEqProofs (maxSteps:=1000000) only [go_sem,g1,g2,g3,g4,rowSame,e9]
 repeat refine ⟨sc,?_⟩
 try exact sf
def x_i_RecsOf:FnX:=⟨45,[.tmp 2],
  .q [.v 1 0,.op 2 (.mv (.k (.one (.nils 13))))]
 (.q [.f 8 1 1,.l 9 8,.op 10 (.build [.i 0,.e,.i 0,.nils 1,.i 0,.nils 1,.i 0,.F,.e,.i 0,.i 0,.i 0,.i 0] [(0,1,(.i 3)),(9,1,(.t 9))]),.op 11 (.bslice 13 [(.t 10)]),.m 3 11]
 (.seq (.q [.f 12 1 0,.l 13 12,.n 14 13,.i 15 0]
 (.block 0 (.loop [1,3,13,14,15] (.q [.b 16 .lss 15 14]
 (.seq (.cond 16 .skip (.exit 0))
 (.seq (.block 1 (.q [.x 17 7 13 15,.L 18 7 17,.op 5 (.alloc [.e,.i 0,.nils 1,.i 0,.nils 1,.i 0,.F]),.s 100001 7 5 18]
 (.reg [.m 19 3,.L 20 7 5,.c 21 164 [20],.op 22 (.build [.i 0,.e,.i 0,.nils 1,.i 0,.nils 1,.i 0,.F,.e,.i 0,.i 0,.i 0,.i 0] [(0,1,(.i 1)),(1,7,(.t 21))]),.op 23 (.bslice 13 [(.t 22)]),.op 24 (.app 13 152 (.t 19) (.t 23)),.m 3 24])))
 (.reg [.B 25 .add 15 1,.m 15 25])))))))
 (.norm [1,3] (.seq (.q [.f 26 1 2,.l 27 26,.n 28 27,.i 29 0]
 (.block 2 (.loop [3,27,28,29] (.q [.b 30 .lss 29 28]
 (.seq (.cond 30 .skip (.exit 2))
 (.seq (.block 3 (.q [.x 31 3 27 29,.L 32 3 31,.op 7 (.alloc [.i 0,.i 0,.i 0]),.s 100002 3 7 32]
 (.reg [.m 33 3,.f 34 7 0,.l 35 34,.f 36 7 1,.l 37 36,.f 38 7 2,.l 39 38,.op 40 (.build [.i 0,.e,.i 0,.nils 1,.i 0,.nils 1,.i 0,.F,.e,.i 0,.i 0,.i 0,.i 0] [(0,1,(.i 4)),(10,1,(.t 35)),(11,1,(.t 37)),(12,1,(.t 39))]),.op 41 (.bslice 13 [(.t 40)]),.op 42 (.app 13 152 (.t 33) (.t 41)),.m 3 42])))
 (.reg [.B 43 .add 29 1,.m 29 43])))))))
 (.norm [3] (.q [.m 44 3,.m 2 44]
 .ret))))))⟩
theorem r_i_RecsOf {Te:TE} (c_i_copyRow:C_i_copyRow Te):C_i_RecsOf (RF Te x_i_RecsOf):=by
 intro t h
 obtain ⟨⟨hR,hRl⟩,hM⟩:=h
 refine X0 x_i_RecsOf.eq_1 ?_
 refine loop_of (σ:=Nat×List RecV) (fun x=>⟨[(1,.bp 1 0),(3,.one (.rf 46 0 [] 13 0 x.2.length)),(13,.one (.ro 7 (t.Rows.map (RowV.enc false)))),(14,.one (.pv (.int .i64 t.Rows.length))),(15,.one (.pv (.int .i64 x.1)))],[(1,[.ro 7 (t.Rows.map (RowV.enc false)),.pv (.int .i64 t.Phase),.ro 3 (t.Marks.map MarkV.row)])],[(0,t.enc false),(46,[slT true 13 (RecV.enc true) x.2])]⟩) (fun x=>x.1≤t.Rows.length∧x.2.length=x.1 + 1∧x.2=recPhase t.Phase::(t.Rows.take x.1).map recRow) (fun x=>t.Rows.length - x.1) (0,[recPhase t.Phase]) ?_ ⟨Nat.zero_le _,rfl,rfl⟩ ?_
 ·simp -implicitDefEqProofs (maxSteps:=1000000) only [go_sem]
  try rfl
 ·rintro ⟨i,a⟩ ⟨hi,hl,he⟩
  simp only at hi hl he
  cases q:decide ((i:Int) < (t.Rows.length:Int))
  ·have k0:i=t.Rows.length:=by simp only [decide_eq_false_iff_not] at q; omega
   rw [k0,List.take_length] at he
   refine G1 q ?_
   refine loop_of (σ:=Nat×List RecV) (fun x=>⟨[(3,.one (.rf 46 0 [] 13 0 x.2.length)),(27,.one (.ro 3 (t.Marks.map MarkV.row))),(28,.one (.pv (.int .i64 t.Marks.length))),(29,.one (.pv (.int .i64 x.1)))],[],[(0,t.enc false),(46,[slT true 13 (RecV.enc true) x.2])]⟩) (fun x=>x.1≤t.Marks.length∧x.2.length=t.Rows.length + x.1 + 1∧x.2=recPhase t.Phase::(t.Rows.map recRow++(t.Marks.take x.1).map recMark)) (fun x=>t.Marks.length - x.1) (0,a) ?_ ⟨Nat.zero_le _,by simp only; omega,by simp only [List.take_zero,List.map_nil,List.append_nil]; exact he⟩ ?_
   ·simp -implicitDefEqProofs (maxSteps:=1000000) only [go_sem]
    try rfl
   ·rintro ⟨j,b⟩ ⟨hj,hbl,hbe⟩
    simp only at hj hbl hbe
    cases q2:decide ((j:Int) < (t.Marks.length:Int))
    ·have k2:j=t.Marks.length:=by simp only [decide_eq_false_iff_not] at q2; omega
     rw [k2,List.take_length] at hbe
     have e9:recsOf t=b:=hbe.symm
     have e8:List.take b.length (List.map (RecV.enc true) b)=List.map (RecV.enc true) b:=List.take_of_length_le (by simp)
     exact F3 q2 e9 e8
    ·have k2:j < t.Marks.length:=by simp only [decide_eq_true_eq] at q2; omega
     have ea:List.map (RecV.enc true) b++[[iT 4,sT ⟨#[]⟩,iT 0,Tr.sl true 1 () [],iT 0,Tr.sl true 1 () [],iT 0,bT false,sT ⟨#[]⟩,iT 0,iT t.Marks[j].Who,iT t.Marks[j].Seq,iT t.Marks[j].Code]]=List.map (RecV.enc true) (b++[recMark t.Marks[j]]):=by rw [List.map_append]; rfl
     have et:List.take b.length (List.map (RecV.enc true) b)=List.map (RecV.enc true) b:=List.take_of_length_le (by simp)
     refine G4 q2 (List.getElem?_eq_getElem k2) et ea ?_
     refine ⟨(j + 1,b++[recMark t.Marks[j]]),?_,⟨k2,?_,?_⟩,?_⟩
     ·rw [IntWalk.i64_in _ (by omega)]
      simp only [List.length_append]
      rfl
     ·simp only [List.length_append,List.length_cons,List.length_nil]; omega
     ·rw [hbe,recs_marks k2]
     ·simp only; omega
  ·have k1:i < t.Rows.length:=by simp only [decide_eq_true_eq] at q; omega
   have ea:List.map (RecV.enc true) a++[[iT 1,sT t.Rows[i].Key,iT t.Rows[i].Old.Tag,slT true 1 uR t.Rows[i].Old.B,iT t.Rows[i].New.Tag,slT true 1 uR t.Rows[i].New.B,iT t.Rows[i].Has,bT t.Rows[i].Aside,sT ⟨#[]⟩,iT 0,iT 0,iT 0,iT 0]]=List.map (RecV.enc true) (a++[recRow t.Rows[i]]):=by rw [List.map_append]; rfl
   have et:List.take a.length (List.map (RecV.enc true) a)=List.map (RecV.enc true) a:=List.take_of_length_le (by simp)
   refine G2 q (List.getElem?_eq_getElem k1) ?_
   refine C2 (c_i_copyRow t.Rows[i] (hRl _ (List.getElem_mem k1))) et ea ?_
   refine ⟨(i + 1,a++[recRow t.Rows[i]]),?_,⟨k1,?_,?_⟩,?_⟩
   ·rw [IntWalk.i64_in _ (by omega)]
    simp only [List.length_append]
    rfl
   ·simp only [List.length_append,List.length_cons,List.length_nil]; omega
   ·rw [he,recs_rows k1]
   ·simp only; omega
def x_i_PairSign:FnX:=⟨26,[.tmp 4,.tmp 5],
  .q [.i 4 0,.F 5]
 (.seq (.block 0 (.q [.m 7 0,.B 8 .eql 7 164,.m 9 8,.y 9 (.m 10 1),.y 9 (.op 11 (.call 77 [0,0,0] [(.t 10),(.i 161),(.i 243)])),.a 12 9 11,.m 6 12]
 (.cond 6 (.q [.m 13 1,.op 14 (.bin .add (.i 12353) (.t 13)),.B 15 .sub 14 161,.m 4 15,.T 5]
 .ret) (.q [.m 17 0,.B 18 .eql 17 165,.m 19 18,.y 19 (.m 20 1),.y 19 (.op 21 (.call 77 [0,0,0] [(.t 20),(.i 161),(.i 246)])),.a 22 19 21,.m 16 22]
 (.c 16 (.q [.m 23 1,.op 24 (.bin .add (.i 12449) (.t 23)),.B 25 .sub 24 161,.m 4 25,.T 5]
 .ret))))))
 (.q [.i 4 0,.F 5]
 .ret))⟩
theorem r_i_PairSign {Te:TE} (c_i_within:C_i_within Te):C_i_PairSign (RF Te x_i_PairSign):=by
 intro hi lo h
 refine run0 ?_
 have w1:IntKind.i64.wrap (12353 + lo)=12353 + lo:=IntWalk.i64_in _ (by omega)
 have w2:IntKind.i64.wrap (12353 + lo - 161)=12353 + lo - 161:=IntWalk.i64_in _ (by omega)
 have w3:IntKind.i64.wrap (12449 + lo)=12449 + lo:=IntWalk.i64_in _ (by omega)
 have w4:IntKind.i64.wrap (12449 + lo - 161)=12449 + lo - 161:=IntWalk.i64_in _ (by omega)
 have no:∀ a b c d:Bool,(a&&b)=false→(c&&d)=false→True:=fun _ _ _ _ _ _=>trivial
 cases g1:(hi==164)
 ·cases g3:(hi==165)
  ·have e:pairSign hi lo=(0,false):=by rw [pairSign,g1,g3]; rfl
   simp -implicitDefEqProofs (maxSteps:=1000000) only [x_i_PairSign,go_sem,g1,g3,e]
   repeat refine ⟨sc,?_⟩
   try exact sf
  ·simp -implicitDefEqProofs (maxSteps:=1000000) only [x_i_PairSign,go_sem,g1,g3]
   repeat refine ⟨sc,?_⟩
   try exact sf
   refine C0 (c_i_within _ _ _) ?_
   cases g4:win lo 161 246
   ·have e:pairSign hi lo=(0,false):=by rw [pairSign,g1,g3,g4]; rfl
    exact F1 e
   ·have e:pairSign hi lo=(12449 + lo - 161,true):=by rw [pairSign,g1,g3,g4]; rfl
    exact F3 e w3 w4
 ·have g3:(hi==165)=false:=by have:=eq_of_beq g1; subst this; rfl
  simp -implicitDefEqProofs (maxSteps:=1000000) only [x_i_PairSign,go_sem,g1]
  repeat refine ⟨sc,?_⟩
  try exact sf
  refine C0 (c_i_within _ _ _) ?_
  cases g4:win lo 161 243
  ·have e:pairSign hi lo=(0,false):=by rw [pairSign,g1,g3,g4]; rfl
   exact F2 g3 e
  ·have e:pairSign hi lo=(12353 + lo - 161,true):=by rw [pairSign,g1,g4]; rfl
   exact F3 e w1 w2
def x_s_PairSign:FnX:=⟨26,[.tmp 4,.tmp 5],
  .q [.i 4 0,.F 5]
 (.seq (.block 0 (.q [.m 7 0,.B 8 .eql 7 164,.m 9 8,.y 9 (.m 10 1),.y 9 (.op 11 (.call 64 [0,0,0] [(.t 10),(.i 161),(.i 243)])),.a 12 9 11,.m 6 12]
 (.cond 6 (.q [.m 13 1,.op 14 (.bin .add (.i 12353) (.t 13)),.B 15 .sub 14 161,.m 4 15,.T 5]
 .ret) (.q [.m 17 0,.B 18 .eql 17 165,.m 19 18,.y 19 (.m 20 1),.y 19 (.op 21 (.call 64 [0,0,0] [(.t 20),(.i 161),(.i 246)])),.a 22 19 21,.m 16 22]
 (.c 16 (.q [.m 23 1,.op 24 (.bin .add (.i 12449) (.t 23)),.B 25 .sub 24 161,.m 4 25,.T 5]
 .ret))))))
 (.q [.i 4 0,.F 5]
 .ret))⟩
theorem r_s_PairSign {Te:TE} (c_s_l1In:C_s_l1In Te):C_s_PairSign (RF Te x_s_PairSign):=by
 intro hi lo h
 refine run0 ?_
 have w1:IntKind.i64.wrap (12353 + lo)=12353 + lo:=IntWalk.i64_in _ (by omega)
 have w2:IntKind.i64.wrap (12353 + lo - 161)=12353 + lo - 161:=IntWalk.i64_in _ (by omega)
 have w3:IntKind.i64.wrap (12449 + lo)=12449 + lo:=IntWalk.i64_in _ (by omega)
 have w4:IntKind.i64.wrap (12449 + lo - 161)=12449 + lo - 161:=IntWalk.i64_in _ (by omega)
 have no:∀ a b c d:Bool,(a&&b)=false→(c&&d)=false→True:=fun _ _ _ _ _ _=>trivial
 cases g1:(hi==164)
 ·cases g3:(hi==165)
  ·have e:pairSign hi lo=(0,false):=by rw [pairSign,g1,g3]; rfl
   simp -implicitDefEqProofs (maxSteps:=1000000) only [x_s_PairSign,go_sem,g1,g3,e]
   repeat refine ⟨sc,?_⟩
   try exact sf
  ·simp -implicitDefEqProofs (maxSteps:=1000000) only [x_s_PairSign,go_sem,g1,g3]
   repeat refine ⟨sc,?_⟩
   try exact sf
   refine C0 (c_s_l1In _ _ _) ?_
   cases g4:win lo 161 246
   ·have e:pairSign hi lo=(0,false):=by rw [pairSign,g1,g3,g4]; rfl
    exact F1 e
   ·have e:pairSign hi lo=(12449 + lo - 161,true):=by rw [pairSign,g1,g3,g4]; rfl
    exact F3 e w3 w4
 ·have g3:(hi==165)=false:=by have:=eq_of_beq g1; subst this; rfl
  simp -implicitDefEqProofs (maxSteps:=1000000) only [x_s_PairSign,go_sem,g1]
  repeat refine ⟨sc,?_⟩
  try exact sf
  refine C0 (c_s_l1In _ _ _) ?_
  cases g4:win lo 161 243
  ·have e:pairSign hi lo=(0,false):=by rw [pairSign,g1,g3,g4]; rfl
   exact F2 g3 e
  ·have e:pairSign hi lo=(12353 + lo - 161,true):=by rw [pairSign,g1,g4]; rfl
   exact F3 e w1 w2
def x_l_toNode:FnX:=⟨12,[.cell 2 (some 10)],
  .q [.v 1 0,.op 2 (.alloc [.nils 1,.nils 2,.i 0,.F,.nils 7,.i 0,.nils 3,.i 0,.i 0,.i 0])]
 (.q [.op 3 (.alloc [.nils 1,.nils 2,.i 0,.F,.nils 7,.i 0,.nils 3,.i 0,.i 0,.i 0])]
 (.q [.f 4 1 0,.L 5 9 4,.c 6 32 [5],.f 7 3 0,.s 100001 9 7 6]
 (.q [.f 8 1 9,.l 9 8,.f 10 3 9,.s 100002 1 10 9]
 (.q [.L 11 10 3,.s 100003 10 2 11]
 .ret))))⟩
theorem r_l_toNode {Te:TE} (c_l_toStore:C_l_toStore Te):C_l_toNode (RF Te x_l_toNode):=by
 intro x hx
 refine run0 ?_
 have h0:x.S.Len:=hx
 simp -implicitDefEqProofs (maxSteps:=1000000) only [x_l_toNode,go_sem]
 exact D0 (c_l_toStore _ h0)
def x_l_eqNode:FnX:=⟨16,[.tmp 4],
  .q [.v 2 0,.v 3 1,.F 4]
 (.seq (.q [.f 5 2 0,.L 6 9 5,.f 7 3 0,.L 8 9 7,.c 9 39 [6,8],.N 10 9]
 (.c 10 (.q [.F 4]
 .ret)))
 (.seq (.q [.f 11 2 9,.l 12 11,.f 13 3 9,.l 14 13,.b 15 .neq 12 14]
 (.c 15 (.q [.F 4]
 .ret)))
 (.q [.T 4]
 .ret)))⟩
theorem r_l_eqNode {Te:TE} (c_l_eqStore:C_l_eqStore Te):C_l_eqNode (RF Te x_l_eqNode):=by
 intro x y hx
 refine run0 ?_
 have h0:x.S.Len:=hx
 have key:(x=y)↔x.S=y.S∧x.Cs=y.Cs:=by cases x; cases y; simp
 simp only [key]
 clear key
 simp -implicitDefEqProofs (maxSteps:=1000000) only [x_l_eqNode,go_sem]
 refine .of (c_l_eqStore _ _ h0) ?_
 simp -implicitDefEqProofs (maxSteps:=1000000) only [go_sem]
 refine ⟨fun q=>?_,fun q=>?_⟩
 ·have n0:¬ (x.S=y.S):=by simpa using q
  simp only [n0,false_and,and_false,true_and,decide_false]
 have e0:x.S=y.S:=by simpa using q
 clear q
 refine ⟨fun q=>?_,fun q=>?_⟩
 ·have n1:¬ (x.Cs=y.Cs):=by simpa using q
  simp only [e0,n1,false_and,and_false,true_and,decide_false]
 have e1:x.Cs=y.Cs:=by simpa using q
 clear q
 simp only [e0,e1,true_and,and_true,decide_true]
def x_l_markNode:FnX:=⟨10,[.tmp 4],
  .q [.v 2 0,.i 4 0]
 (.q [.f 5 2 0,.L 6 9 5,.m 7 1,.op 8 (.io 40 (.t 6) [(.t 7)]),.m 1 8]
 (.q [.m 9 1,.m 4 9]
 .ret))⟩
theorem r_l_markNode {Te:TE} (c_l_markStore:C_l_markStore Te):C_l_markNode (RF Te x_l_markNode):=by
 intro x k hx hk
 refine run0 ?_
 have h0:x.S.Len:=hx
 simp -implicitDefEqProofs (maxSteps:=1000000) only [x_l_markNode,go_sem]
 repeat (refine ⟨by decide,?_⟩)
 refine .of (c_l_markStore _ _ h0 (by omega)) ?_
 simp -implicitDefEqProofs (maxSteps:=1000000) only [go_sem]
 repeat (refine back_bif (by simp -implicitDefEqProofs (maxSteps:=1000000) only [go_sem]) ?_; simp -implicitDefEqProofs (maxSteps:=1000000) only [go_sem])
 have w0:=StoreV.far_le h0 k
 rfl
def x_l_heldNode:FnX:=⟨12,[.tmp 4],
  .q [.v 2 0,.i 4 0]
 (.q [.f 5 2 0,.L 6 9 5,.m 7 1,.c 8 41 [6,7],.m 1 8]
 (.seq (.q [.m 9 1,.B 10 .lss 9 0]
 (.c 10 (.q [.i 4 (-1)]
 .ret)))
 (.q [.m 11 1,.m 4 11]
 .ret)))⟩
theorem r_l_heldNode {Te:TE} (c_l_heldStore:C_l_heldStore Te):C_l_heldNode (RF Te x_l_heldNode):=by
 intro x k hx hk
 refine run0 ?_
 have h0:x.S.Len:=hx
 simp -implicitDefEqProofs (maxSteps:=1000000) only [x_l_heldNode,go_sem]
 refine .of (c_l_heldStore x.S _ h0 (by omega)) ?_
 simp -implicitDefEqProofs (maxSteps:=1000000) only [go_sem]
 have w0:=StoreV.far_le h0 k
 refine ⟨fun q=>by simp only [decide_eq_true_eq] at q; omega,fun _=>?_⟩
 rfl
def x_i_Apply1:FnX:=⟨9,[.tmp 3],
  .q [.v 2 0,.F 3]
 (.q [.f 4 2 0,.l 5 4,.f 6 1 8,.l 7 6,.b 8 .eql 5 7,.m 3 8]
 .ret)⟩
theorem r_i_Apply1 {Te:TE}:C_i_Apply1 (RF Te x_i_Apply1):=by
 intro x r
 refine run0 ?_
 simp -implicitDefEqProofs (maxSteps:=1000000) only [x_i_Apply1,go_sem]
 repeat refine ⟨sc,?_⟩
 try exact sf
def x_z_IndexFuncimplApply1:FnX:=⟨19,[.tmp 4],
  .q [.i 4 0]
 (.seq (.q [.m 6 0,.n 7 6,.i 8 0]
 (.block 0 (.loop [0,1,7,8] (.q [.b 9 .lss 8 7]
 (.seq (.cond 9 .skip (.exit 0))
 (.seq (.block 1 (.q [.m 10 8,.m 5 10]
 (.q [.m 11 1,.m 12 0,.m 13 5,.x 14 7 12 13,.L 15 7 14,.op 16 (.dcall 195 [0,15] [(.t 15)] (.t 11))]
 (.c 16 (.q [.m 17 5,.m 4 17]
 .ret)))))
 (.reg [.B 18 .add 8 1,.m 8 18])))))))
 (.norm [] (.q [.i 4 (-1)]
 .ret)))⟩
theorem r_z_IndexFuncimplApply1 {Te:TE} (c_i_Apply1:C_i_Apply1 Te):C_z_IndexFuncimplApply1 (RFV Te 195 x_z_IndexFuncimplApply1):=by
 intro l r hl
 refine run0V ?_
 simp -implicitDefEqProofs (maxSteps:=1000000) only [x_z_IndexFuncimplApply1,go_sem]
 repeat refine ⟨sc,?_⟩
 try exact sf
 refine loop_of (σ:=Nat) (fun i=>⟨[(0,.one (.ro 7 (l.map (RowV.enc false)))),(1,.fn 195 1 0),(7,.one (.pv (.int .i64 l.length))),(8,.one (.pv (.int .i64 i)))],[(1,[.pv (.int .i64 r.Kind),.pv (.string r.R.Key),.pv (.int .i64 r.R.Old.Tag),.dead,.pv (.int .i64 r.R.New.Tag),.dead,.pv (.int .i64 r.R.Has),.pv (.bool r.R.Aside),.pv (.string r.Key),.pv (.int .i64 r.N),.pv (.int .i64 r.Who),.pv (.int .i64 r.Seq),.pv (.int .i64 r.Code)])],[(0,[slT false 7 (RowV.enc false) l]),(1,r.dim)]⟩) (fun i=>i≤l.length∧∀ j (hj:j < l.length),j < i→decide (l[j].Key=r.Key)=false) (fun i=>l.length - i) 0 ?_ ⟨Nat.zero_le _,fun j _ h=>absurd h (Nat.not_lt_zero _)⟩ ?_
 ·simp -implicitDefEqProofs (maxSteps:=1000000) only [go_sem]
  try rfl
 ·rintro i ⟨hi,hp⟩
  cases q:decide ((i:Int) < (l.length:Int))
  ·have e:=rowAt_none (i:=i) (by simp only [decide_eq_false_iff_not] at q; omega) hp
   exact F2 q e
  ·have k1:i < l.length:=by simp only [decide_eq_true_eq] at q; omega
   refine G2 q (List.getElem?_eq_getElem k1) ?_
   refine C0 (c_i_Apply1 l[i] r) ?_
   cases g:decide (l[i].Key=r.Key)
   ·refine G1 g ?_
    refine ⟨i + 1,?_,⟨k1,rowAt_step k1 hp g⟩,by omega⟩
    rw [IntWalk.i64_in _ (by omega)]
    rfl
   ·have e:=(rowAt_hit k1 hp g).1
    exact F2 g e
end Go.X

