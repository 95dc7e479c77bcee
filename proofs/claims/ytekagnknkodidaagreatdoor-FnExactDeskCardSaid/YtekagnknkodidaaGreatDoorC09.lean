/- Texts: CVq CVr_2 CT CVo CVw CVg_2 CVj_2 CB CEb_2 CVj_5. -/
import Derived.Test.YtekagnknkodidaaGreatDoorC04
set_option linter.unusedVariables false
set_option linter.unusedSimpArgs false
namespace Go.X
set_option maxRecDepth 100000
set_option maxHeartbeats 8000000
def x_i_withMark:FnX:=⟨46,[.tmp 4],
  .q [.v 3 1,.op 4 (.mv (.k (.one (.nils 3))))]
 (.q [.op 9 (.bslice 3 []),.m 5 9]
 (.q [.F 6]
 (.seq (.q [.m 10 0,.n 11 10,.i 12 0]
 (.block 0 (.loop [3,5,6,10,11,12] (.q [.b 13 .lss 12 11]
 (.seq (.cond 13 .skip (.exit 0))
 (.seq (.block 1 (.q [.x 14 3 10 12,.L 15 3 14,.op 8 (.alloc [.i 0,.i 0,.i 0]),.s 100001 3 8 15]
 (.seq (.q [.m 16 6,.N 17 16,.m 18 17,.y 18 (.f 19 8 0),.y 18 (.l 20 19),.y 18 (.f 21 3 0),.y 18 (.l 22 21),.y 18 (.b 23 .geq 20 22),.a 24 18 23]
 (.c 24 (.q [.m 25 5,.L 26 3 3,.op 27 (.bslice 3 [(.t 26)]),.op 28 (.app 3 24 (.t 25) (.t 27)),.m 5 28]
 (.reg [.T 6]))))
 (.q [.f 29 8 0,.l 30 29,.f 31 3 0,.l 32 31,.b 33 .neq 30 32]
 (.c 33 (.reg [.m 34 5,.L 35 3 8,.op 36 (.bslice 3 [(.t 35)]),.op 37 (.app 3 24 (.t 34) (.t 36)),.m 5 37]))))))
 (.reg [.B 38 .add 12 1,.m 12 38])))))))
 (.norm [3,5,6] (.seq (.q [.m 39 6,.N 40 39]
 (.c 40 (.reg [.m 41 5,.L 42 3 3,.op 43 (.bslice 3 [(.t 42)]),.op 44 (.app 3 24 (.t 41) (.t 43)),.m 5 44])))
 (.q [.m 45 5,.m 4 45]
 .ret))))))⟩
theorem r_i_withMark {Te:TE}:C_i_withMark (RF Te x_i_withMark):=by
 intro l m h
 refine X0 x_i_withMark.eq_1 ?_
 refine loop_of (σ:=Nat×List MarkV×Bool) (fun x=>⟨[(3,.bp 3 0),(5,.one (.rf 48 0 [] 3 0 x.2.1.length)),(6,.one (.pv (.bool x.2.2))),(10,.one (.ro 3 (l.map MarkV.row))),(11,.one (.pv (.int .i64 l.length))),(12,.one (.pv (.int .i64 x.1)))],[(3,[.pv (.int .i64 m.Who),.pv (.int .i64 m.Seq),.pv (.int .i64 m.Code)])],[(0,[slT false 3 MarkV.row l]),(1,m.row),(48,[slT true 3 MarkV.row x.2.1])]⟩) (fun x=>x.1≤l.length∧x.2=(l.take x.1).foldl (insM m) ([],false)) (fun x=>l.length - x.1) (0,[],false) ?_ ⟨Nat.zero_le _,rfl⟩ ?_
 ·simp -implicitDefEqProofs (maxSteps:=1000000) only [go_sem]
  try rfl
 ·rintro ⟨i,o,p⟩ ⟨hi,he⟩
  simp only at hi he
  have hol:o.length≤2 * l.length:=by
   have:=insM_le m (l.take i) ([],false)
   rw [← he] at this
   simp only [List.length_nil,List.length_take] at this
   omega
  cases q:decide ((i:Int) < (l.length:Int))
  ·have k0:i=l.length:=by simp only [decide_eq_false_iff_not] at q; omega
   rw [k0,List.take_length] at he
   cases p
   ·have e:insMark l m=o++[m]:=by rw [insMark,← he]; rfl
    have ea:=app1M o m
    have et:List.take (o.length + 1) (List.map MarkV.row (o++[m]))=List.map MarkV.row (o++[m]):=List.take_of_length_le (by simp)
    exact F4 q e ea et
   ·have e:insMark l m=o:=by rw [insMark,← he]; rfl
    exact F2 q e
  ·have k1:i < l.length:=by simp only [decide_eq_true_eq] at q; omega
   have es:=insM_step (m:=m) k1
   rw [← he] at es
   cases g2:decide (l[i].Who≠m.Who) <;> cases g1:decide (l[i].Who≥m.Who) <;> cases p
   all_goals
    have g3:(l[i].Who != m.Who)=decide (l[i].Who≠m.Who):=by simp only [bne,ne_eq]; by_cases h:l[i].Who=m.Who <;> simp [h]
    simp only [insM,g1,g2,Bool.not_true,Bool.not_false,Bool.and_true,Bool.and_false,Bool.or_true,Bool.or_false,Bool.true_or,Bool.false_or,Bool.true_and,Bool.false_and,if_true,if_false,Bool.false_eq_true] at es
    have ea:=app1M o m
    have eb:=app1M o l[i]
    have ec:=app1M (o++[m]) l[i]
    have et:List.take (o.length + 1) (List.map MarkV.row (o++[m]))=List.map MarkV.row (o++[m]):=List.take_of_length_le (by simp)
    try simp -implicitDefEqProofs (maxSteps:=1000000) only [go_sem,q,g1,g3,g2,List.getElem?_eq_getElem k1,take_marks,ea,eb,ec,et]
    repeat refine ⟨sc,?_⟩
   all_goals
    refine ⟨(i + 1,(l.take (i + 1)).foldl (insM m) ([],false)),?_,⟨k1,rfl⟩,by simp only; omega⟩
    rw [← es,IntWalk.i64_in _ (by omega)]
    try simp only [List.length_append]
    rfl
def x_s_l12Put:FnX:=⟨53,[.tmp 4],
  .q [.v 3 1,.op 4 (.mv (.k (.one (.nils 3))))]
 (.q [.op 8 (.bslice 3 []),.m 5 8]
 (.q [.F 6]
 (.seq (.q [.i 7 0]
 (.block 0 (.loop [0,3,5,6,7] (.seq (.q [.m 9 7,.m 10 0,.n 11 10,.b 12 .lss 9 11]
 (.cond 12 .skip (.exit 0)))
 (.seq (.block 1 (.seq (.seq (.draw [.m 15 6,.N 16 15,.m 17 16,.y 17 (.m 18 0),.y 17 (.m 19 7),.y 17 (.x 20 3 18 19),.y 17 (.f 21 20 0),.y 17 (.l 22 21),.y 17 (.f 23 3 0),.y 17 (.l 24 23),.y 17 (.b 25 .geq 22 24),.a 26 17 25] [[],[0],[1],[2],[2],[3,4,2],[5,2],[6,2],[2],[8,2],[7,9,2],[2,10]])
 (.c 26 (.q [.m 27 5,.L 28 3 3,.op 29 (.bslice 3 [(.t 28)]),.op 30 (.app 3 24 (.t 27) (.t 29)),.m 5 30]
 (.reg [.T 6]))))
 (.seq (.draw [.m 31 0,.m 32 7,.x 33 3 31 32,.f 34 33 0,.l 35 34,.f 36 3 0,.l 37 36,.b 38 .neq 35 37] [[],[],[0,1],[2],[3],[],[5],[4,6]])
 (.c 38 (.reg [.m 39 5,.m 40 0,.m 41 7,.x 42 3 40 41,.L 43 3 42,.op 44 (.bslice 3 [(.t 43)]),.op 45 (.app 3 24 (.t 39) (.t 44)),.m 5 45])))))
 (.reg [.m 13 7,.B 14 .add 13 1,.m 7 14]))))))
 (.norm [3,5,6] (.seq (.q [.m 46 6,.N 47 46]
 (.c 47 (.reg [.m 48 5,.L 49 3 3,.op 50 (.bslice 3 [(.t 49)]),.op 51 (.app 3 24 (.t 48) (.t 50)),.m 5 51])))
 (.q [.m 52 5,.m 4 52]
 .ret))))))⟩
theorem r_s_l12Put {Te:TE}:C_s_l12Put (RF Te x_s_l12Put):=by
 intro l m h
 refine X0 x_s_l12Put.eq_1 ?_
 refine loop_of (σ:=Nat×List MarkV×Bool) (fun x=>⟨[(0,.one (.ro 3 (l.map MarkV.row))),(3,.bp 3 0),(5,.one (.rf 55 0 [] 3 0 x.2.1.length)),(6,.one (.pv (.bool x.2.2))),(7,.one (.pv (.int .i64 x.1)))],[(3,[.pv (.int .i64 m.Who),.pv (.int .i64 m.Seq),.pv (.int .i64 m.Code)])],[(0,[slT false 3 MarkV.row l]),(1,m.row),(55,[slT true 3 MarkV.row x.2.1])]⟩) (fun x=>x.1≤l.length∧x.2=(l.take x.1).foldl (insM m) ([],false)) (fun x=>l.length - x.1) (0,[],false) ?_ ⟨Nat.zero_le _,rfl⟩ ?_
 ·simp -implicitDefEqProofs (maxSteps:=1000000) only [go_sem]
  try rfl
 ·rintro ⟨i,o,p⟩ ⟨hi,he⟩
  simp only at hi he
  have hol:o.length≤2 * l.length:=by
   have:=insM_le m (l.take i) ([],false)
   rw [← he] at this
   simp only [List.length_nil,List.length_take] at this
   omega
  cases q:decide ((i:Int) < (l.length:Int))
  ·have k0:i=l.length:=by simp only [decide_eq_false_iff_not] at q; omega
   rw [k0,List.take_length] at he
   cases p
   ·have e:insMark l m=o++[m]:=by rw [insMark,← he]; rfl
    have ea:=app1M o m
    have et:List.take (o.length + 1) (List.map MarkV.row (o++[m]))=List.map MarkV.row (o++[m]):=List.take_of_length_le (by simp)
    exact F4 q e ea et
   ·have e:insMark l m=o:=by rw [insMark,← he]; rfl
    exact F2 q e
  ·have k1:i < l.length:=by simp only [decide_eq_true_eq] at q; omega
   have es:=insM_step (m:=m) k1
   rw [← he] at es
   cases g2:decide (l[i].Who≠m.Who) <;> cases g1:decide (l[i].Who≥m.Who) <;> cases p
   all_goals
    have g3:(l[i].Who != m.Who)=decide (l[i].Who≠m.Who):=by simp only [bne,ne_eq]; by_cases h:l[i].Who=m.Who <;> simp [h]
    simp only [insM,g1,g2,Bool.not_true,Bool.not_false,Bool.and_true,Bool.and_false,Bool.or_true,Bool.or_false,Bool.true_or,Bool.false_or,Bool.true_and,Bool.false_and,if_true,if_false,Bool.false_eq_true] at es
    have ea:=app1M o m
    have eb:=app1M o l[i]
    have ec:=app1M (o++[m]) l[i]
    have et:List.take (o.length + 1) (List.map MarkV.row (o++[m]))=List.map MarkV.row (o++[m]):=List.take_of_length_le (by simp)
    try simp -implicitDefEqProofs (maxSteps:=1000000) only [go_sem,q,g1,g3,g2,List.getElem?_eq_getElem k1,take_marks,ea,eb,ec,et]
    repeat refine ⟨sc,?_⟩
   all_goals
    refine ⟨(i + 1,(l.take (i + 1)).foldl (insM m) ([],false)),?_,⟨k1,rfl⟩,by simp only; omega⟩
    rw [← es,IntWalk.i64_in _ (by omega)]
    try simp only [List.length_append]
    rfl
def x_s_l12Row:FnX:=⟨55,[.tmp 4],
  .q [.v 3 1,.op 4 (.mv (.k (.one (.nils 7))))]
 (.q [.op 8 (.bslice 7 []),.m 5 8]
 (.q [.F 6]
 (.seq (.q [.i 7 0]
 (.block 0 (.loop [0,3,5,6,7] (.seq (.q [.m 9 7,.m 10 0,.n 11 10,.b 12 .lss 9 11]
 (.cond 12 .skip (.exit 0)))
 (.seq (.block 1 (.seq (.seq (.draw [.m 15 6,.N 16 15,.m 17 16,.y 17 (.m 18 0),.y 17 (.m 19 7),.y 17 (.x 20 7 18 19),.y 17 (.f 21 20 0),.y 17 (.l 22 21),.y 17 (.f 23 3 0),.y 17 (.l 24 23),.y 17 (.b 25 .geq 22 24),.a 26 17 25] [[],[0],[1],[2],[2],[3,4,2],[5,2],[6,2],[2],[8,2],[7,9,2],[2,10]])
 (.c 26 (.q [.m 27 5,.L 28 7 3,.c 29 131 [28],.op 30 (.bslice 7 [(.t 29)]),.op 31 (.app 7 96 (.t 27) (.t 30)),.m 5 31]
 (.reg [.T 6]))))
 (.seq (.draw [.m 32 0,.m 33 7,.x 34 7 32 33,.f 35 34 0,.l 36 35,.f 37 3 0,.l 38 37,.b 39 .neq 36 38] [[],[],[0,1],[2],[3],[],[5],[4,6]])
 (.c 39 (.reg [.m 40 5,.m 41 0,.m 42 7,.x 43 7 41 42,.L 44 7 43,.op 45 (.bslice 7 [(.t 44)]),.op 46 (.app 7 96 (.t 40) (.t 45)),.m 5 46])))))
 (.reg [.m 13 7,.B 14 .add 13 1,.m 7 14]))))))
 (.norm [3,5,6] (.seq (.q [.m 47 6,.N 48 47]
 (.c 48 (.reg [.m 49 5,.L 50 7 3,.c 51 131 [50],.op 52 (.bslice 7 [(.t 51)]),.op 53 (.app 7 96 (.t 49) (.t 52)),.m 5 53])))
 (.q [.m 54 5,.m 4 54]
 .ret))))))⟩
theorem r_s_l12Row {Te:TE} (c_s_l9Copy:C_s_l9Copy Te):C_s_l12Row (RF Te x_s_l12Row):=by
 intro l r h hr
 refine X0 x_s_l12Row.eq_1 ?_
 refine loop_of (σ:=Nat×List RowV×Bool) (fun x=>⟨[(0,.one (.rf 0 0 [] 7 0 l.length)),(3,.bp 3 0),(5,.one (.rf 57 0 [] 7 0 x.2.1.length)),(6,.one (.pv (.bool x.2.2))),(7,.one (.pv (.int .i64 x.1)))],[(3,[.pv (.string r.Key),.pv (.int .i64 r.Old.Tag),.ro 1 (r.Old.B.map uR),.pv (.int .i64 r.New.Tag),.ro 1 (r.New.B.map uR),.pv (.int .i64 r.Has),.pv (.bool r.Aside)])],[(0,[Tr.sl true 7 () (leftRows r l x.1)]),(1,r.enc false),(57,[slT true 7 (RowV.enc true) x.2.1])]⟩) (fun x=>x.1≤l.length∧x.2=(l.take x.1).foldl (insR r) ([],false)) (fun x=>l.length - x.1) (0,[],false) ?_ ⟨Nat.zero_le _,rfl⟩ ?_
 ·simp -implicitDefEqProofs (maxSteps:=1000000) only [go_sem,left_zero]
  try rfl
 ·rintro ⟨i,o,p⟩ ⟨hi,he⟩
  simp only at hi he
  have hol:o.length≤2 * l.length:=by
   have:=insR_le r (l.take i) ([],false)
   rw [← he] at this
   simp only [List.length_nil,List.length_take] at this
   omega
  have ea:=app1Rw o r
  have et:List.take (o.length + 1) (List.map (RowV.enc true) (o++[r]))=List.map (RowV.enc true) (o++[r]):=List.take_of_length_le (by simp)
  cases q:decide ((i:Int) < (l.length:Int))
  ·have k0:i=l.length:=by simp only [decide_eq_false_iff_not] at q; omega
   rw [k0,List.take_length] at he
   subst k0
   cases p
   ·have e:insRow l r=o++[r]:=by rw [insRow,← he]; rfl
    refine G1 q ?_
    exact D3 (c_s_l9Copy r hr) e ea et
   ·have e:insRow l r=o:=by rw [insRow,← he]; rfl
    exact F2 q e
  ·have k1:i < l.length:=by simp only [decide_eq_true_eq] at q; omega
   have es:=insR_step (r:=r) k1
   rw [← he] at es
   have eg:=left_get (r:=r) k1
   have ed:(leftRows r l i).getD i []=l[i].enc true:=by rw [List.getD_eq_getElem?_getD,eg]; rfl
   have el:=left_len r l i
   have ex:=left_set (r:=r) k1
   have e1:∀ X:List T,((leftRows r l i).set i X)[i]?=some X:=fun X=>List.getElem?_set_self (by rw [el]; exact k1)
   have e2:∀ X:List T,((leftRows r l i).set i X).getD i []=X:=fun X=>by rw [List.getD_eq_getElem?_getD,e1]; rfl
   have eb:=app1Rw o l[i]
   have ec:=app1Rw (o++[r]) l[i]
   cases g2:decide (l[i].Key=r.Key) <;> cases g1:Op.bytesLess l[i].Key.toList r.Key.toList <;> cases p
   all_goals
    simp only [insR,g1,g2,Bool.not_true,Bool.not_false,Bool.and_true,Bool.and_false,Bool.or_true,Bool.or_false,Bool.true_or,Bool.false_or,Bool.true_and,Bool.false_and,if_true,if_false,Bool.false_eq_true] at es
    simp only [leftR,g2,if_true,if_false,Bool.false_eq_true] at ex
    try simp -implicitDefEqProofs (maxSteps:=1000000) only [go_sem,q,g1,g2,eg,ed,el,ex,e1,e2,List.set_set,List.length_set,take_rows,take_all,ea,eb,ec,et]
    repeat refine ⟨sc,?_⟩
   all_goals try (refine .of (c_s_l9Copy r hr) ?_; try simp -implicitDefEqProofs (maxSteps:=1000000) only [go_sem,g1,g2,eg,ed,el,ex,e1,e2,List.set_set,List.length_set,take_rows,take_all,ea,eb,ec,et])
   all_goals
    repeat refine ⟨sc,?_⟩
   all_goals
    refine ⟨(i + 1,(l.take (i + 1)).foldl (insR r) ([],false)),?_,⟨k1,rfl⟩,by simp only; omega⟩
    rw [← es,IntWalk.i64_in _ (by omega)]
    try simp only [List.length_append]
    try rw [left_same k1 g2]
    rfl
def x_s_SignOk:FnX:=⟨10,[.tmp 2],
  .q [.F 2]
 (.q [.m 3 0,.op 4 (.call 42 [0,0,0] [(.t 3),(.i 0),(.i 1114111)]),.m 5 4,.y 5 (.m 6 0),.y 5 (.op 7 (.call 42 [0,0,0] [(.t 6),(.i 55296),(.i 57343)])),.y 5 (.N 8 7),.a 9 5 8,.m 2 9]
 .ret)⟩
theorem r_s_SignOk {Te:TE} (c_s_l1In:C_s_l1In Te):C_s_SignOk (RF Te x_s_SignOk):=by
 intro n
 refine run0 ?_
 simp -implicitDefEqProofs (maxSteps:=1000000) only [x_s_SignOk,go_sem,signOk]
 repeat refine ⟨sc,?_⟩
 try exact sf
 refine C0 (c_s_l1In _ _ _) ?_
 cases g1:win n 0 1114111
 ·exact F0
 ·refine G0 ?_
  exact D0 (c_s_l1In _ _ _)
def x_i_SignOk:FnX:=⟨10,[.tmp 2],
  .q [.F 2]
 (.q [.m 3 0,.op 4 (.call 57 [0,0,0] [(.t 3),(.i 0),(.i 1114111)]),.m 5 4,.y 5 (.m 6 0),.y 5 (.op 7 (.call 57 [0,0,0] [(.t 6),(.i 55296),(.i 57343)])),.y 5 (.N 8 7),.a 9 5 8,.m 2 9]
 .ret)⟩
theorem r_i_SignOk {Te:TE} (c_i_within:C_i_within Te):C_i_SignOk (RF Te x_i_SignOk):=by
 intro n
 refine run0 ?_
 simp -implicitDefEqProofs (maxSteps:=1000000) only [x_i_SignOk,go_sem,signOk]
 repeat refine ⟨sc,?_⟩
 try exact sf
 refine C0 (c_i_within _ _ _) ?_
 cases g1:win n 0 1114111
 ·exact F0
 ·refine G0 ?_
  exact D0 (c_i_within _ _ _)
def x_s_PutSign:FnX:=⟨76,[.tmp 4],
  .q [.op 4 (.mv (.k (.one (.nils 1))))]
 (.q [.op 6 (.bslice 1 []),.m 7 0,.op 8 (.app 1 1 (.t 6) (.t 7)),.m 5 8]
 (.seq (.block 0 (.q [.m 10 1,.c 11 247 [10],.N 12 11,.m 9 12]
 (.cond 9 (.q [.m 13 5,.m 4 13]
 .ret) (.q [.m 15 1,.B 16 .leq 15 127,.m 14 16]
 (.cond 14 (.q [.m 17 5,.m 18 1,.op 19 (.conv (.int .u8) (.t 18)),.op 20 (.bslice 1 [(.t 19)]),.op 21 (.app 1 1 (.t 17) (.t 20)),.m 4 21]
 .ret) (.q [.m 23 1,.B 24 .leq 23 2047,.m 22 24]
 (.cond 22 (.q [.m 25 5,.m 26 1,.op 27 (.bin .shr (.t 26) (.k (.one (.pv (.int .u64 6))))),.op 28 (.bin .or (.i 192) (.t 27)),.op 29 (.conv (.int .u8) (.t 28)),.m 30 1,.B 31 .and 30 63,.op 32 (.bin .or (.i 128) (.t 31)),.op 33 (.conv (.int .u8) (.t 32)),.op 34 (.bslice 1 [(.t 29),(.t 33)]),.op 35 (.app 1 1 (.t 25) (.t 34)),.m 4 35]
 .ret) (.q [.m 37 1,.B 38 .leq 37 65535,.m 36 38]
 (.c 36 (.q [.m 39 5,.m 40 1,.op 41 (.bin .shr (.t 40) (.k (.one (.pv (.int .u64 12))))),.op 42 (.bin .or (.i 224) (.t 41)),.op 43 (.conv (.int .u8) (.t 42)),.m 44 1,.op 45 (.bin .shr (.t 44) (.k (.one (.pv (.int .u64 6))))),.B 46 .and 45 63,.op 47 (.bin .or (.i 128) (.t 46)),.op 48 (.conv (.int .u8) (.t 47)),.m 49 1,.B 50 .and 49 63,.op 51 (.bin .or (.i 128) (.t 50)),.op 52 (.conv (.int .u8) (.t 51)),.op 53 (.bslice 1 [(.t 43),(.t 48),(.t 52)]),.op 54 (.app 1 1 (.t 39) (.t 53)),.m 4 54]
 .ret))))))))))
 (.q [.m 55 5,.m 56 1,.op 57 (.bin .shr (.t 56) (.k (.one (.pv (.int .u64 18))))),.op 58 (.bin .or (.i 240) (.t 57)),.op 59 (.conv (.int .u8) (.t 58)),.m 60 1,.op 61 (.bin .shr (.t 60) (.k (.one (.pv (.int .u64 12))))),.B 62 .and 61 63,.op 63 (.bin .or (.i 128) (.t 62)),.op 64 (.conv (.int .u8) (.t 63)),.m 65 1,.op 66 (.bin .shr (.t 65) (.k (.one (.pv (.int .u64 6))))),.B 67 .and 66 63,.op 68 (.bin .or (.i 128) (.t 67)),.op 69 (.conv (.int .u8) (.t 68)),.m 70 1,.B 71 .and 70 63,.op 72 (.bin .or (.i 128) (.t 71)),.op 73 (.conv (.int .u8) (.t 72)),.op 74 (.bslice 1 [(.t 59),(.t 64),(.t 69),(.t 73)]),.op 75 (.app 1 1 (.t 55) (.t 74)),.m 4 75]
 .ret)))⟩
theorem r_s_PutSign {Te:TE} (c_s_SignOk:C_s_SignOk Te):C_s_PutSign (RF Te x_s_PutSign):=by
 intro b n hb
 cases hn:signOk n
 ·refine X0 x_s_PutSign.eq_1 ?_
  refine .of (c_s_SignOk _) ?_
  try simp -implicitDefEqProofs (maxSteps:=1000000) only [go_sem,putSign,hn,if_false]
  repeat refine ⟨sc,?_⟩
  try exact sf
  try rfl
 obtain ⟨h0,h1,_⟩:=signOk_in hn
 obtain ⟨m,rfl⟩:∃ m:Nat,n=m:=⟨n.toNat,by omega⟩
 have ep:putSign b (m:Int)=b++enc8 m:=by simp only [putSign,hn,if_true,Int.toNat_natCast]
 have d6:(m:Int).fdiv (2 ^ 6)=((m / 64:Nat):Int):=fdivN m 64
 have d12:(m:Int).fdiv (2 ^ 12)=((m / 4096:Nat):Int):=fdivN m 4096
 have d18:(m:Int).fdiv (2 ^ 18)=((m / 262144:Nat):Int):=fdivN m 262144
 have a0:=and63 m (by omega)
 have a6:=and63 (m / 64) (by omega)
 have a12:=and63 (m / 4096) (by omega)
 have o0:orK .i64 128 ((m % 64:Nat):Int)=((128 + m % 64:Nat):Int):=or_hd 128 6 2 rfl (by omega) (by omega)
 have o6:orK .i64 128 ((m / 64 % 64:Nat):Int)=((128 + m / 64 % 64:Nat):Int):=or_hd 128 6 2 rfl (by omega) (by omega)
 have o12:orK .i64 128 ((m / 4096 % 64:Nat):Int)=((128 + m / 4096 % 64:Nat):Int):=or_hd 128 6 2 rfl (by omega) (by omega)
 cases q:decide ((m:Int)≤127)
 ·have hq:¬ m≤127:=by simp only [decide_eq_false_iff_not] at q; omega
  cases q2:decide ((m:Int)≤2047)
  ·have hq2:¬ m≤2047:=by simp only [decide_eq_false_iff_not] at q2; omega
   cases q3:decide ((m:Int)≤65535)
   ·have hq3:¬ m≤65535:=by simp only [decide_eq_false_iff_not] at q3; omega
    have t:orK .i64 240 ((m / 262144:Nat):Int)=((240 + m / 262144:Nat):Int):=or_hd 240 3 30 rfl (by omega) (by omega)
    have ee:List.take (b.length + 4) (List.map uR b++[[uT (mkU ((240 + m / 262144:Nat):Int))],[uT (mkU ((128 + m / 4096 % 64:Nat):Int))],[uT (mkU ((128 + m / 64 % 64:Nat):Int))],[uT (mkU ((128 + m % 64:Nat):Int))]])=List.map uR (b++enc8 m):=by
     rw [List.take_of_length_le (by simp),mkU_nat,mkU_nat,mkU_nat,mkU_nat]
     simp only [enc8,if_neg hq,if_neg hq2,if_neg hq3,List.map_append,List.map_cons,List.map_nil]
    refine X0 x_s_PutSign.eq_1 ?_
    refine .of (c_s_SignOk _) ?_
    try simp -implicitDefEqProofs (maxSteps:=1000000) only [go_sem,hn,ep,q,q2,q3,show Nat.min 6 64=6 from rfl,show Nat.min 12 64=12 from rfl,show Nat.min 18 64=18 from rfl,d6,d12,d18,a0,a6,a12,o0,o6,o12,t,mkU_wrap,ee]
    repeat refine ⟨sc,?_⟩
    try exact sf
   ·have hq3:m≤65535:=by simp only [decide_eq_true_eq] at q3; omega
    have t:orK .i64 224 ((m / 4096:Nat):Int)=((224 + m / 4096:Nat):Int):=or_hd 224 4 14 rfl (by omega) (by omega)
    have ee:List.take (b.length + 3) (List.map uR b++[[uT (mkU ((224 + m / 4096:Nat):Int))],[uT (mkU ((128 + m / 64 % 64:Nat):Int))],[uT (mkU ((128 + m % 64:Nat):Int))]])=List.map uR (b++enc8 m):=by
     rw [List.take_of_length_le (by simp),mkU_nat,mkU_nat,mkU_nat]
     simp only [enc8,if_neg hq,if_neg hq2,if_pos hq3,List.map_append,List.map_cons,List.map_nil]
    refine X0 x_s_PutSign.eq_1 ?_
    refine .of (c_s_SignOk _) ?_
    try simp -implicitDefEqProofs (maxSteps:=1000000) only [go_sem,hn,ep,q,q2,q3,show Nat.min 6 64=6 from rfl,show Nat.min 12 64=12 from rfl,d6,d12,a0,a6,o0,o6,t,mkU_wrap,ee]
    repeat refine ⟨sc,?_⟩
    try exact sf
  ·have hq2:m≤2047:=by simp only [decide_eq_true_eq] at q2; omega
   have t:orK .i64 192 ((m / 64:Nat):Int)=((192 + m / 64:Nat):Int):=or_hd 192 6 3 rfl (by omega) (by omega)
   have ee:List.take (b.length + 2) (List.map uR b++[[uT (mkU ((192 + m / 64:Nat):Int))],[uT (mkU ((128 + m % 64:Nat):Int))]])=List.map uR (b++enc8 m):=by
    rw [List.take_of_length_le (by simp),mkU_nat,mkU_nat]
    simp only [enc8,if_neg hq,if_pos hq2,List.map_append,List.map_cons,List.map_nil]
   refine X0 x_s_PutSign.eq_1 ?_
   refine .of (c_s_SignOk _) ?_
   try simp -implicitDefEqProofs (maxSteps:=1000000) only [go_sem,hn,ep,q,q2,show Nat.min 6 64=6 from rfl,d6,a0,o0,t,mkU_wrap,ee]
   repeat refine ⟨sc,?_⟩
   try exact sf
 ·have hq:m≤127:=by simp only [decide_eq_true_eq] at q; omega
  have ee:List.take (b.length + 1) (List.map uR b++[[uT (mkU (m:Int))]])=List.map uR (b++enc8 m):=by
   rw [List.take_of_length_le (by simp),mkU_nat]
   simp only [enc8,if_pos hq,List.map_append,List.map_cons,List.map_nil]
  refine X0 x_s_PutSign.eq_1 ?_
  refine .of (c_s_SignOk _) ?_
  try simp -implicitDefEqProofs (maxSteps:=1000000) only [go_sem,hn,ep,q,mkU_wrap,ee]
  repeat refine ⟨sc,?_⟩
  try exact sf
def x_i_isUp:FnX:=⟨12,[.tmp 2],
  .q [.v 1 0,.F 2]
 (.q [.L 3 10 1,.c 4 101 [3],.m 5 4,.y 5 (.f 6 1 0),.y 5 (.f 7 6 0),.y 5 (.f 8 7 3),.y 5 (.l 9 8),.y 5 (.N 10 9),.a 11 5 10,.m 2 11]
 .ret)⟩
theorem r_i_isUp {Te:TE} (c_i_NodeOk:C_i_NodeOk Te):C_i_isUp (RF Te x_i_isUp):=by
 intro n h
 refine X0 x_i_isUp.eq_1 ?_
 refine C0 (c_i_NodeOk n h) ?_
 cases g:n.ok
 ·have e:n.up=false:=by rw [NodeV.up,g]; rfl
  exact F1 e
 ·have e:n.up = !n.S.D.Down:=by rw [NodeV.up,g]; rfl
  exact F1 e
def x_s_l15Up:FnX:=⟨12,[.tmp 2],
  .q [.v 1 0,.F 2]
 (.q [.L 3 10 1,.c 4 44 [3],.m 5 4,.y 5 (.f 6 1 0),.y 5 (.f 7 6 0),.y 5 (.f 8 7 3),.y 5 (.l 9 8),.y 5 (.N 10 9),.a 11 5 10,.m 2 11]
 .ret)⟩
theorem r_s_l15Up {Te:TE} (c_s_NodeOk:C_s_NodeOk Te):C_s_l15Up (RF Te x_s_l15Up):=by
 intro n h
 refine X0 x_s_l15Up.eq_1 ?_
 refine C0 (c_s_NodeOk n h) ?_
 cases g:n.ok
 ·have e:n.up=false:=by rw [NodeV.up,g]; rfl
  exact F1 e
 ·have e:n.up = !n.S.D.Down:=by rw [NodeV.up,g]; rfl
  exact F1 e
def x_i_RowText:FnX:=⟨18,[.tmp 2,.tmp 3],
  .q [.v 1 0,.op 2 (.mv (.k (.one (.pv (.string ⟨#[]⟩))))),.F 3]
 (.seq (.q [.f 4 1 5,.l 5 4,.B 6 .and 5 2,.B 7 .neq 6 0]
 (.c 7 (.q [.f 8 1 3,.L 9 2 8,.c 10 104 [9],.e 11 10 0,.e 12 10 1,.m 2 11,.m 3 12]
 .ret)))
 (.q [.f 13 1 1,.L 14 2 13,.c 15 104 [14],.e 16 15 0,.e 17 15 1,.m 2 16,.m 3 17]
 .ret))⟩
theorem r_i_RowText {Te:TE} (c_i_CellText:C_i_CellText Te):C_i_RowText (RF Te x_i_RowText):=by
 intro r h
 have e:=and2_ne _ h
 refine X1 x_i_RowText.eq_1 e ?_
 by_cases g:r.Has=1
 ·have e2:r.rtext=r.Old.text:=if_pos g
  have e3:decide (r.Has≠1)=false:=by simp [g]
  refine G1 e3 ?_
  exact D1 (c_i_CellText r.Old) e2
 ·have e2:r.rtext=r.New.text:=if_neg g
  have e3:decide (r.Has≠1)=true:=by simp [g]
  refine G1 e3 ?_
  exact D1 (c_i_CellText r.New) e2
def x_s_RowText:FnX:=⟨16,[.tmp 2,.tmp 3],
  .q [.v 1 0,.op 2 (.mv (.k (.one (.pv (.string ⟨#[]⟩))))),.F 3]
 (.seq (.q [.L 4 7 1,.c 5 177 [4]]
 (.c 5 (.q [.f 6 1 3,.L 7 2 6,.c 8 178 [7],.e 9 8 0,.e 10 8 1,.m 2 9,.m 3 10]
 .ret)))
 (.q [.f 11 1 1,.L 12 2 11,.c 13 178 [12],.e 14 13 0,.e 15 13 1,.m 2 14,.m 3 15]
 .ret))⟩
theorem r_s_RowText {Te:TE} (c_s_l9New:C_s_l9New Te) (c_s_CellText:C_s_CellText Te):C_s_RowText (RF Te x_s_RowText):=by
 intro r h
 refine X0 x_s_RowText.eq_1 ?_
 refine C0 (c_s_l9New r h) ?_
 by_cases g:r.Has=1
 ·have e2:r.rtext=r.Old.text:=if_pos g
  have e3:decide (r.Has≠1)=false:=by simp [g]
  refine G1 e3 ?_
  exact D1 (c_s_CellText r.Old) e2
 ·have e2:r.rtext=r.New.text:=if_neg g
  have e3:decide (r.Has≠1)=true:=by simp [g]
  refine G1 e3 ?_
  exact D1 (c_s_CellText r.New) e2
def x_i_RowAt1:FnX:=⟨8,[.tmp 3],
  .q [.v 2 0,.F 3]
 (.q [.f 4 2 0,.l 5 4,.l 6 1,.b 7 .eql 5 6,.m 3 7]
 .ret)⟩
theorem r_i_RowAt1 {Te:TE}:C_i_RowAt1 (RF Te x_i_RowAt1):=by
 intro r key
 refine run0 ?_
 simp -implicitDefEqProofs (maxSteps:=1000000) only [x_i_RowAt1,go_sem]
 repeat refine ⟨sc,?_⟩
 try exact sf
def x_z_IndexFuncimplRowAt1:FnX:=⟨19,[.tmp 4],
  .q [.i 4 0]
 (.seq (.q [.m 6 0,.n 7 6,.i 8 0]
 (.block 0 (.loop [0,1,7,8] (.q [.b 9 .lss 8 7]
 (.seq (.cond 9 .skip (.exit 0))
 (.seq (.block 1 (.q [.m 10 8,.m 5 10]
 (.q [.m 11 1,.m 12 0,.m 13 5,.x 14 7 12 13,.L 15 7 14,.op 16 (.dcall 103 [0,3] [(.t 15)] (.t 11))]
 (.c 16 (.q [.m 17 5,.m 4 17]
 .ret)))))
 (.reg [.B 18 .add 8 1,.m 8 18])))))))
 (.norm [] (.q [.i 4 (-1)]
 .ret)))⟩
theorem r_z_IndexFuncimplRowAt1 {Te:TE} (c_i_RowAt1:C_i_RowAt1 Te):C_z_IndexFuncimplRowAt1 (RFV Te 103 x_z_IndexFuncimplRowAt1):=by
 intro l key hl
 refine run0V ?_
 simp -implicitDefEqProofs (maxSteps:=1000000) only [x_z_IndexFuncimplRowAt1,go_sem]
 repeat refine ⟨sc,?_⟩
 try exact sf
 refine loop_of (σ:=Nat) (fun i=>⟨[(0,.one (.ro 7 (l.map (RowV.enc false)))),(1,.fn 103 1 0),(7,.one (.pv (.int .i64 l.length))),(8,.one (.pv (.int .i64 i)))],[(1,[.pv (.string key)])],[(0,[slT false 7 (RowV.enc false) l]),(1,[sT key])]⟩) (fun i=>i≤l.length∧∀ j (hj:j < l.length),j < i→decide (l[j].Key=key)=false) (fun i=>l.length - i) 0 ?_ ⟨Nat.zero_le _,fun j _ h=>absurd h (Nat.not_lt_zero _)⟩ ?_
 ·simp -implicitDefEqProofs (maxSteps:=1000000) only [go_sem]
  try rfl
 ·rintro i ⟨hi,hp⟩
  cases q:decide ((i:Int) < (l.length:Int))
  ·have e:=rowAt_none (i:=i) (by simp only [decide_eq_false_iff_not] at q; omega) hp
   exact F2 q e
  ·have k1:i < l.length:=by simp only [decide_eq_true_eq] at q; omega
   refine G2 q (List.getElem?_eq_getElem k1) ?_
   refine C0 (c_i_RowAt1 l[i] key) ?_
   cases g:decide (l[i].Key=key)
   ·refine G1 g ?_
    refine ⟨i + 1,?_,⟨k1,rowAt_step k1 hp g⟩,by omega⟩
    rw [IntWalk.i64_in _ (by omega)]
    rfl
   ·have e:=(rowAt_hit k1 hp g).1
    exact F2 g e
def x_i_RowAt:FnX:=⟨9,[.tmp 4],
  .q [.v 2 0,.v 3 1,.i 4 0]
 (.q [.f 5 2 0,.l 6 5,.op 7 (.clos 103 (.t 3)),.op 8 (.vcall 102 103 [0,3] [(.t 6)] (.t 7)),.m 4 8]
 .ret)⟩
theorem r_i_RowAt {Te:TE} (c_z_IndexFuncimplRowAt1:C_z_IndexFuncimplRowAt1 Te):C_i_RowAt (RF Te x_i_RowAt):=by
 intro t key hl
 refine X0 x_i_RowAt.eq_1 ?_
 exact D0 (c_z_IndexFuncimplRowAt1 t.Rows key hl)
def x_s_RowAt:FnX:=⟨22,[.tmp 4],
  .q [.v 2 0,.i 4 0]
 (.seq (.q [.i 5 0]
 (.block 0 (.loop [1,2,5] (.seq (.q [.m 6 5,.f 7 2 0,.l 8 7,.n 9 8,.b 10 .lss 6 9]
 (.cond 10 .skip (.exit 0)))
 (.seq (.block 1 (.q [.f 13 2 0,.l 14 13,.m 15 5,.x 16 7 14 15,.f 17 16 0,.l 18 17,.m 19 1,.b 20 .eql 18 19]
 (.c 20 (.q [.m 21 5,.m 4 21]
 .ret))))
 (.reg [.m 11 5,.B 12 .add 11 1,.m 5 12]))))))
 (.norm [] (.q [.i 4 (-1)]
 .ret)))⟩
theorem r_s_RowAt {Te:TE}:C_s_RowAt (RF Te x_s_RowAt):=by
 intro t key hl
 refine X0 x_s_RowAt.eq_1 ?_
 refine loop_of (σ:=Nat) (fun i=>⟨[(1,.one (.pv (.string key))),(2,.bp 2 0),(5,.one (.pv (.int .i64 i)))],[(2,[.ro 7 (t.Rows.map (RowV.enc false)),.pv (.int .i64 t.Phase),.ro 3 (t.Marks.map MarkV.row)])],[(0,t.enc false),(1,[sT key])]⟩) (fun i=>i≤t.Rows.length∧∀ j (hj:j < t.Rows.length),j < i→decide (t.Rows[j].Key=key)=false) (fun i=>t.Rows.length - i) 0 ?_ ⟨Nat.zero_le _,fun j _ h=>absurd h (Nat.not_lt_zero _)⟩ ?_
 ·simp -implicitDefEqProofs (maxSteps:=1000000) only [go_sem]
  try rfl
 ·rintro i ⟨hi,hp⟩
  cases q:decide ((i:Int) < (t.Rows.length:Int))
  ·have e:=rowAt_none (i:=i) (by simp only [decide_eq_false_iff_not] at q; omega) hp
   exact F2 q e
  ·have k1:i < t.Rows.length:=by simp only [decide_eq_true_eq] at q; omega
   cases g:decide (t.Rows[i].Key=key)
   ·refine G3 q (List.getElem?_eq_getElem k1) g ?_
    refine ⟨i + 1,?_,⟨k1,rowAt_step k1 hp g⟩,by omega⟩
    rw [IntWalk.i64_in _ (by omega)]
    rfl
   ·have e:=(rowAt_hit k1 hp g).1
    exact F4 q (List.getElem?_eq_getElem k1) g e
def x_i_NodeGet:FnX:=⟨33,[.tmp 4,.tmp 5],
  .q [.v 2 0,.op 4 (.mv (.k (.one (.pv (.string ⟨#[]⟩))))),.i 5 0]
 (.seq (.q [.L 9 10 2,.c 10 58 [9],.N 11 10]
 (.c 11 (.q [.op 4 (.mv (.k (.one (.pv (.string ⟨#[]⟩))))),.i 5 1]
 .ret)))
 (.q [.f 12 2 0,.f 13 12 4,.L 14 3 13,.m 15 1,.c 16 59 [14,15],.m 6 16]
 (.seq (.q [.m 17 6,.B 18 .lss 17 0]
 (.c 18 (.q [.op 4 (.mv (.k (.one (.pv (.string ⟨#[]⟩))))),.i 5 2]
 .ret)))
 (.q [.f 20 2 0,.f 21 20 4,.f 22 21 0,.l 23 22,.m 24 6,.x 25 7 23 24,.L 26 7 25,.c 27 60 [26],.m 19 27,.e 28 19 0,.e 29 19 1,.m 7 28,.m 8 29]
 (.seq (.q [.m 30 8,.N 31 30]
 (.c 31 (.q [.op 4 (.mv (.k (.one (.pv (.string ⟨#[]⟩))))),.i 5 4]
 .ret)))
 (.q [.m 32 7,.m 4 32,.i 5 0]
 .ret))))))⟩
theorem r_i_NodeGet {Te:TE} (c_i_isUp:C_i_isUp Te) (c_i_RowAt:C_i_RowAt Te) (c_i_RowText:C_i_RowText Te):C_i_NodeGet (RF Te x_i_NodeGet):=by
 intro n key h
 refine X0 x_i_NodeGet.eq_1 ?_
 refine C0 (c_i_isUp n h) ?_
 cases g:n.up
 ·have e:n.get key=(⟨#[]⟩,1):=by rw [NodeV.get,g]; rfl
  exact F1 e
 refine G0 ?_
 refine C0 (c_i_RowAt n.S.T key h.2.1.1) ?_
 rcases rowAt_cases n.S.T.Rows key with ⟨e1,e2⟩ | ⟨hk,e1,e2⟩
 ·have e:n.get key=(⟨#[]⟩,2):=by rw [NodeV.get,g,e2]; rfl
  exact F2 e1 e
 have hr:=rowOk_13 (TabV.ok_row (NodeV.up_tab g) hk)
 have c1:decide ((rowIx n.S.T.Rows key:Int) < 0)=false:=decide_eq_false (by omega)
 refine G3 e1 e2 c1 ?_
 refine C0 (c_i_RowText n.S.T.Rows[rowIx n.S.T.Rows key] hr) ?_
 cases g2:n.S.T.Rows[rowIx n.S.T.Rows key].rtext.2
 ·have e:n.get key=(⟨#[]⟩,4):=by rw [NodeV.get,g,e2]; simp only [if_true,g2]; rfl
  exact F2 e g2
 ·have e:n.get key=(n.S.T.Rows[rowIx n.S.T.Rows key].rtext.1,0):=by rw [NodeV.get,g,e2]; simp only [if_true,g2]
  exact F2 e g2
def x_i_change:FnX:=⟨32,[.cell 10 (some 10),.tmp 11,.tmp 12],
  .q [.v 5 0,.v 8 3,.op 10 (.alloc [.nils 1,.nils 2,.i 0,.F,.nils 7,.i 0,.nils 3,.i 0,.i 0,.i 0]),.i 11 0,.F 12]
 (.q [.m 15 1,.m 16 2,.m 17 4,.f 18 8 10,.s 100001 1 18 15,.f 19 8 11,.s 100002 1 19 16,.f 20 8 12,.s 100003 1 20 17]
 (.q [.L 22 10 5,.L 23 13 8,.c 24 67 [22,23],.m 21 24,.e 25 21 0,.e 26 21 1,.op 13 (.alloc [.nils 1,.nils 2,.i 0,.F,.nils 7,.i 0,.nils 3,.i 0,.i 0,.i 0]),.s 100004 10 13 25,.m 14 26]
 (.seq (.q [.m 27 14,.N 28 27]
 (.c 28 (.q [.L 29 10 13,.s 100005 10 10 29,.i 11 5,.F 12]
 .ret)))
 (.q [.L 30 10 13,.m 31 4,.s 100006 10 10 30,.m 11 31,.T 12]
 .ret))))⟩
theorem r_i_change {Te:TE} (c_i_added:C_i_added Te):C_i_change (RF Te x_i_change):=by
 intro n who seq r code hn hr
 refine X0 x_i_change.eq_1 ?_
 refine C0 (c_i_added n (r.by who seq code) hn hr) ?_
 cases g:(n.S.add (r.by who seq code)).2
 ·try simp -implicitDefEqProofs (maxSteps:=1000000) only [go_sem,g,NodeV.changed,NodeV.added,take_all,take_marks,NodeV.enc]
  repeat refine ⟨sc,?_⟩
  try exact sf
  try rfl
 ·try simp -implicitDefEqProofs (maxSteps:=1000000) only [go_sem,g,NodeV.changed,NodeV.added,take_all,take_marks,NodeV.enc]
  repeat refine ⟨sc,?_⟩
  try exact sf
  try rfl
def x_i_delRec:FnX:=⟨21,[.cell 4 (some 13),.tmp 5],
  .q [.v 2 0,.op 4 (.alloc [.i 0,.e,.i 0,.nils 1,.i 0,.nils 1,.i 0,.F,.e,.i 0,.i 0,.i 0,.i 0]),.i 5 0]
 (.seq (.block 0 (.q [.m 7 1,.c 8 157 [7],.N 9 8,.m 6 9]
 (.cond 6 (.q [.op 10 (.build [.i 0,.e,.i 0,.nils 1,.i 0,.nils 1,.i 0,.F,.e,.i 0,.i 0,.i 0,.i 0] [(0,1,(.i 4))]),.s 100001 13 4 10,.i 5 1]
 .ret) (.q [.f 12 2 0,.f 13 12 4,.L 14 3 13,.m 15 1,.c 16 59 [14,15],.B 17 .lss 16 0,.m 11 17]
 (.c 11 (.q [.op 18 (.build [.i 0,.e,.i 0,.nils 1,.i 0,.nils 1,.i 0,.F,.e,.i 0,.i 0,.i 0,.i 0] [(0,1,(.i 4))]),.s 100002 13 4 18,.i 5 2]
 .ret))))))
 (.q [.m 19 1,.op 20 (.build [.i 0,.e,.i 0,.nils 1,.i 0,.nils 1,.i 0,.F,.e,.i 0,.i 0,.i 0,.i 0] [(0,1,(.i 2)),(8,1,(.t 19))]),.s 100003 13 4 20,.i 5 0]
 .ret))⟩
theorem r_i_delRec {Te:TE} (c_i_NameOk:C_i_NameOk Te) (c_i_RowAt:C_i_RowAt Te):C_i_delRec (RF Te x_i_delRec):=by
 intro n key hn hk
 refine X0 x_i_delRec.eq_1 ?_
 refine C0 (c_i_NameOk key hk) ?_
 cases g:nameOk key
 ·have e:n.delCode key=1:=by rw [NodeV.delCode,g]; rfl
  exact F1 e
 refine G0 ?_
 refine C0 (c_i_RowAt n.S.T key hn) ?_
 cases g2:decide (rowAt n.S.T.Rows key < 0)
 ·have e:n.delCode key=0:=by rw [NodeV.delCode,g,g2]; rfl
  exact F2 e g2
 ·have e:n.delCode key=2:=by rw [NodeV.delCode,g,g2]; rfl
  exact F2 e g2
def x_i_NodeDel:FnX:=⟨51,[.cell 8 (some 10),.tmp 9,.tmp 10],
  .q [.v 4 0,.op 8 (.alloc [.nils 1,.nils 2,.i 0,.F,.nils 7,.i 0,.nils 3,.i 0,.i 0,.i 0]),.i 9 0,.F 10]
 (.seq (.q [.L 14 10 4,.c 15 58 [14],.N 16 15,.m 17 16,.z 17 (.m 18 1),.z 17 (.m 19 2),.z 17 (.c 20 62 [18,19]),.z 17 (.N 21 20),.r 22 17 21]
 (.c 22 (.q [.L 23 10 4,.c 24 28 [23],.s 100001 10 8 24,.i 9 1,.F 10]
 .ret)))
 (.q [.L 26 10 4,.m 27 1,.m 28 2,.c 29 105 [26,27,28],.m 25 29,.e 30 25 0,.e 31 25 1,.m 11 30,.m 12 31]
 (.seq (.q [.m 32 12]
 (.c 32 (.q [.L 33 10 4,.c 34 28 [33],.m 35 11,.s 100002 10 8 34,.m 9 35,.F 10]
 .ret)))
 (.q [.L 37 10 4,.m 38 3,.c 39 106 [37,38],.m 36 39,.e 40 36 0,.e 41 36 1,.op 13 (.alloc [.i 0,.e,.i 0,.nils 1,.i 0,.nils 1,.i 0,.F,.e,.i 0,.i 0,.i 0,.i 0]),.s 100003 13 13 40,.m 11 41]
 (.q [.L 42 10 4,.m 43 1,.m 44 2,.L 45 13 13,.m 46 11,.c 47 107 [42,43,44,45,46],.e 48 47 0,.e 49 47 1,.e 50 47 2,.s 100004 10 8 48,.m 9 49,.m 10 50]
 .ret)))))⟩
theorem r_i_NodeDel {Te:TE} (c_i_isUp:C_i_isUp Te) (c_i_mayAsk:C_i_mayAsk Te) (c_i_copyNode:C_i_copyNode Te) (c_i_askedBefore:C_i_askedBefore Te) (c_i_delRec:C_i_delRec Te) (c_i_change:C_i_change Te):C_i_NodeDel (RF Te x_i_NodeDel):=by
 intro n who seq key hn hk
 have hL:=hn.len (by decide)
 refine X0 x_i_NodeDel.eq_1 ?_
 refine C0 (c_i_isUp n (hn.mono (by decide))) ?_
 cases g1:n.up
 ·have e:n.del who seq key=(n,1,false):=by rw [NodeV.del,old_no (by rw [g1]; rfl)]; rfl
  refine G0 ?_
  exact D1 (c_i_copyNode n hL) e
 refine G0 ?_
 refine C0 (c_i_mayAsk _ _) ?_
 cases g2:(win who 1 9&&win seq 1 65535)
 ·have e:n.del who seq key=(n,1,false):=by rw [NodeV.del,old_no (by rw [g1,g2]; rfl)]; rfl
  refine G1 g2 ?_
  exact D1 (c_i_copyNode n hL) e
 have eo:=old_yes g1 g2
 refine G1 g2 ?_
 refine .of (c_i_askedBefore n _ _ (by have:=hn.2.2; omega)) ?_
 try simp -implicitDefEqProofs (maxSteps:=1000000) only [go_sem]
 repeat refine ⟨sc,?_⟩
 try exact sf
 rw [← eo]
 cases g3:(n.old who seq).2
 rotate_left
 ·have e:n.del who seq key=(n,(n.old who seq).1,false):=by rw [NodeV.del,g3]; rfl
  refine G1 g3 ?_
  exact D1 (c_i_copyNode n hL) e
 have e:n.del who seq key=n.changed ((delRec (n.delCode key) key).by who seq (n.delCode key)):=by rw [NodeV.del,g3,delRec_by]; rfl
 refine G1 g3 ?_
 refine C0 (c_i_delRec n key (by have:=hn.2.1.1; omega) (by omega)) ?_
 exact D1 (c_i_change n who seq (delRec (n.delCode key) key) (n.delCode key) hn (delRec_in _ hk)) e
def x_i_NodePhase:FnX:=⟨33,[.cell 4 (some 10),.tmp 5],
  .q [.v 2 0,.op 4 (.alloc [.nils 1,.nils 2,.i 0,.F,.nils 7,.i 0,.nils 3,.i 0,.i 0,.i 0]),.F 5]
 (.q [.L 7 10 2,.c 8 28 [7],.op 6 (.alloc [.nils 1,.nils 2,.i 0,.F,.nils 7,.i 0,.nils 3,.i 0,.i 0,.i 0]),.s 100001 10 6 8]
 (.seq (.q [.L 9 10 2,.c 10 58 [9],.N 11 10]
 (.c 11 (.q [.L 12 10 6,.s 100002 10 4 12,.F 5]
 .ret)))
 (.seq (.q [.f 13 2 0,.f 14 13 4,.f 15 14 1,.l 16 15,.m 17 1,.c 18 66 [16,17]]
 (.c 18 (.reg [.L 20 10 2,.m 21 1,.op 22 (.build [.i 0,.e,.i 0,.nils 1,.i 0,.nils 1,.i 0,.F,.e,.i 0,.i 0,.i 0,.i 0] [(0,1,(.i 3)),(9,1,(.t 21))]),.c 23 67 [20,22],.m 19 23,.e 24 19 0,.e 25 19 1,.s 100003 10 6 24])))
 (.seq (.draw [.L 26 10 6,.f 27 6 0,.f 28 27 4,.f 29 28 1,.l 30 29,.m 31 1,.b 32 .eql 30 31,.s 100004 10 4 26,.m 5 32] [[],[],[1],[2],[3],[],[4,5],[0,0],[6,7,0,1,2,3,4,5,6,7]])
 .ret))))⟩
theorem r_i_NodePhase {Te:TE} (c_i_copyNode:C_i_copyNode Te) (c_i_isUp:C_i_isUp Te) (c_i_NextOk:C_i_NextOk Te) (c_i_added:C_i_added Te):C_i_NodePhase (RF Te x_i_NodePhase):=by
 intro n p hn
 have hL:=hn.len (by decide)
 refine X0 x_i_NodePhase.eq_1 ?_
 refine C0 (c_i_copyNode n hL) ?_
 refine C0 (c_i_isUp n (hn.mono (by decide))) ?_
 cases g1:n.up
 ·have e:n.phase p=(n,false):=by rw [NodeV.phase,g1]; rfl
  exact F1 e
 have e:n.phase p=(n.phase1 p,(n.phase1 p).S.T.Phase==p):=by rw [NodeV.phase,g1]; rfl
 refine G0 ?_
 refine C0 (c_i_NextOk _ _) ?_
 cases g2:nextOk n.S.T.Phase p
 ·have e1:n.phase1 p=n:=by rw [NodeV.phase1,g2]; rfl
  exact F2 e e1
 ·have e1:n.phase1 p=n.added (recPh p):=by rw [NodeV.phase1,g2]; rfl
  refine G0 ?_
  refine .of (c_i_added n (recPh p) hn (recPh_in p _)) ?_
  try simp -implicitDefEqProofs (maxSteps:=1000000) only [go_sem,e,e1,NodeV.added,take_all,take_marks]
  repeat refine ⟨sc,?_⟩
  try exact sf
  try rfl
def x_s_DevOk:FnX:=⟨63,[.tmp 2],
  .q [.v 1 0,.F 2]
 (.seq (.q [.i 3 0]
 (.block 0 (.loop [1,3] (.seq (.q [.m 5 3,.f 6 1 0,.l 7 6,.n 8 7,.b 9 .lss 5 8]
 (.cond 9 .skip (.exit 0)))
 (.seq (.block 1 (.q [.f 12 1 0,.l 13 12,.m 14 3,.x 15 1 13 14,.l 16 15,.n 17 16,.B 18 .gtr 17 120]
 (.c 18 (.q [.F 2]
 .ret))))
 (.reg [.m 10 3,.B 11 .add 10 1,.m 3 11]))))))
 (.norm [1] (.seq (.q [.i 4 0]
 (.block 2 (.loop [1,4] (.seq (.q [.m 19 4,.f 20 1 1,.l 21 20,.n 22 21,.b 23 .lss 19 22]
 (.cond 23 .skip (.exit 2)))
 (.seq (.block 3 (.seq (.draw [.f 26 1 1,.l 27 26,.m 28 4,.x 29 2 27 28,.f 30 29 0,.l 31 30,.f 32 1 0,.l 33 32,.n 34 33,.B 35 .sub 34 1,.op 36 (.call 42 [0,0,0] [(.t 31),(.i 0),(.t 35)]),.N 37 36,.m 38 37,.z 38 (.f 39 1 1),.z 38 (.l 40 39),.z 38 (.m 41 4),.z 38 (.x 42 2 40 41),.z 38 (.f 43 42 1),.z 38 (.l 44 43),.z 38 (.n 45 44),.z 38 (.B 46 .gtr 45 120),.r 47 38 46] [[],[0],[],[1,2],[3],[4],[],[6],[7],[8],[5,9],[10],[11,10],[12],[13,12],[12],[14,15,12],[16,12],[17,12],[18,12],[19,12],[12,20]])
 (.c 47 (.q [.F 2]
 .ret))))
 (.reg [.m 24 4,.B 25 .add 24 1,.m 4 25]))))))
 (.norm [1] (.q [.f 48 1 0,.l 49 48,.n 50 49,.op 51 (.call 42 [0,0,0] [(.t 50),(.i 1),(.i 64)]),.m 52 51,.y 52 (.f 53 1 1),.y 52 (.l 54 53),.y 52 (.n 55 54),.y 52 (.B 56 .leq 55 40),.a 57 52 56,.m 58 57,.y 58 (.f 59 1 2),.y 58 (.l 60 59),.y 58 (.op 61 (.call 42 [0,0,0] [(.t 60),(.i (-1)),(.i 1000)])),.a 62 58 61,.m 2 62]
 .ret)))))⟩
theorem r_s_DevOk {Te:TE} (c_s_l1In:C_s_l1In Te):C_s_DevOk (RF Te x_s_DevOk):=by
 intro d h
 obtain ⟨⟨hl,hS⟩,hl2,hC⟩:=h
 have ws:IntKind.i64.wrap ((d.Secs.length:Int) - 1)=(d.Secs.length:Int) - 1:=IntWalk.i64_in _ (by omega)
 refine X0 x_s_DevOk.eq_1 ?_
 refine loop_of (σ:=Nat) (fun i=>⟨[(1,.bp 1 0),(3,.one (.pv (.int .i64 i)))],[(1,[.ro 1 (d.Secs.map (fun y=>[slT false 1 uR y])),.ro 2 (d.Cache.map (WrV.enc false)),.pv (.int .i64 d.Fuse),.pv (.bool d.Down)])],[(0,d.enc false)]⟩) (fun i=>i≤d.Secs.length∧(d.Secs.take i).all (secGood)=true) (fun i=>d.Secs.length - i) 0 ?_ ⟨Nat.zero_le _,rfl⟩ ?_
 ·simp -implicitDefEqProofs (maxSteps:=1000000) only [go_sem]
  try rfl
 ·rintro i ⟨hi,hp⟩
  cases q:decide ((i:Int) < (d.Secs.length:Int))
  ·have eS:=all_end (p:=secGood) (show d.Secs.length≤i by simp only [decide_eq_false_iff_not] at q; omega) hp
   refine G1 q ?_
   refine loop_of (σ:=Nat) (fun i=>⟨[(1,.bp 1 0),(4,.one (.pv (.int .i64 i)))],[(1,[.ro 1 (d.Secs.map (fun y=>[slT false 1 uR y])),.ro 2 (d.Cache.map (WrV.enc false)),.pv (.int .i64 d.Fuse),.pv (.bool d.Down)])],[(0,d.enc false)]⟩) (fun i=>i≤d.Cache.length∧(d.Cache.take i).all (wrGood d.Secs.length)=true) (fun i=>d.Cache.length - i) 0 ?_ ⟨Nat.zero_le _,rfl⟩ ?_
   ·simp -implicitDefEqProofs (maxSteps:=1000000) only [go_sem]
    try rfl
   ·rintro i ⟨hi,hp⟩
    cases q:decide ((i:Int) < (d.Cache.length:Int))
    ·have eC:=all_end (p:=wrGood d.Secs.length) (show d.Cache.length≤i by simp only [decide_eq_false_iff_not] at q; omega) hp
     refine G1 q ?_
     refine C0 (c_s_l1In _ _ _) ?_
     cases g1:win (d.Secs.length:Int) 1 64
     ·have e:d.ok=false:=by simp only [DevV.ok,g1,Bool.false_and]
      exact F1 e
     refine G0 ?_
     cases g2:decide ((d.Cache.length:Int)≤40)
     ·have e:d.ok=false:=by simp only [DevV.ok,g2,Bool.and_false,Bool.false_and]
      exact F2 g2 e
     refine G1 g2 ?_
     have e:d.ok=win d.Fuse (-1) 1000:=by simp only [DevV.ok,g1,g2,eS,eC,Bool.and_true,Bool.true_and]
     exact D1 (c_s_l1In _ _ _) e
    ·have k1:i < d.Cache.length:=by simp only [decide_eq_true_eq] at q; omega
     refine G3 q (List.getElem?_eq_getElem k1) ws ?_
     refine C0 (c_s_l1In _ _ _) ?_
     cases g:win d.Cache[i].N 0 ((d.Secs.length:Int) - 1)
     ·have gg:wrGood d.Secs.length d.Cache[i]=false:=by simp only [wrGood,g,Bool.false_and]
      have e:d.ok=false:=by simp only [DevV.ok,all_not (p:=wrGood d.Secs.length) k1 gg,Bool.and_false]
      exact F1 e
     ·cases g2:decide ((d.Cache[i].B.length:Int) > 120)
      ·refine G2 g2 (List.getElem?_eq_getElem k1) ?_
       exact ⟨i + 1,by rw [IntWalk.i64_in _ (by omega)]; rfl,⟨k1,all_step (p:=wrGood d.Secs.length) k1 hp (by simp only [wrGood,g,g2,Bool.not_false,Bool.and_true])⟩,by omega⟩
      ·have gg:wrGood d.Secs.length d.Cache[i]=false:=by simp only [wrGood,g2,Bool.not_true,Bool.and_false]
       have e:d.ok=false:=by simp only [DevV.ok,all_not (p:=wrGood d.Secs.length) k1 gg,Bool.and_false]
       exact F3 g2 (List.getElem?_eq_getElem k1) e
  ·have k1:i < d.Secs.length:=by simp only [decide_eq_true_eq] at q; omega
   cases g:decide ((d.Secs[i].length:Int) > 120)
   ·refine G3 q (List.getElem?_eq_getElem k1) g ?_
    exact ⟨i + 1,by rw [IntWalk.i64_in _ (by omega)]; rfl,⟨k1,all_step (p:=secGood) k1 hp (by simp only [secGood,g,Bool.not_false])⟩,by omega⟩
   ·have gg:secGood d.Secs[i]=false:=by simp only [secGood,g,Bool.not_true]
    have e:d.ok=false:=by simp only [DevV.ok,all_not (p:=secGood) k1 gg,Bool.and_false,Bool.false_and]
    exact F4 q (List.getElem?_eq_getElem k1) g e
def x_s_PutRow:FnX:=⟨38,[.tmp 4],
  .q [.v 3 1,.op 4 (.mv (.k (.one (.nils 1))))]
 (.q [.op 6 (.bslice 1 []),.m 7 0,.op 8 (.app 1 1 (.t 6) (.t 7)),.m 5 8]
 (.seq (.q [.L 9 7 3,.c 10 174 [9],.N 11 10]
 (.c 11 (.q [.m 12 5,.m 4 12]
 .ret)))
 (.seq (.draw [.m 13 5,.f 14 3 0,.l 15 14,.c 16 188 [13,15],.f 17 3 5,.l 18 17,.op 19 (.conv (.int .u8) (.t 18)),.f 20 3 6,.l 21 20,.c 22 221 [21],.op 23 (.bslice 1 [(.t 19),(.t 22)]),.op 24 (.app 1 1 (.t 16) (.t 23)),.m 5 24] [[],[],[1],[0,2],[],[4],[5],[],[7],[8,3],[6,9],[3,10,9],[11,11,0,1,2,3,4,5,6,7,8,9,10,11]])
 (.seq (.q [.L 25 7 3,.c 26 191 [25]]
 (.c 26 (.reg [.m 27 5,.f 28 3 1,.L 29 2 28,.op 30 (.call 222 [1,0] [(.t 27),(.t 29)]),.m 5 30])))
 (.seq (.q [.L 31 7 3,.c 32 177 [31]]
 (.c 32 (.reg [.m 33 5,.f 34 3 3,.L 35 2 34,.op 36 (.call 222 [1,0] [(.t 33),(.t 35)]),.m 5 36])))
 (.q [.m 37 5,.m 4 37]
 .ret))))))⟩
theorem r_s_PutRow {Te:TE} (c_s_RowOk:C_s_RowOk Te) (c_s_PutText:C_s_PutText Te) (c_s_l11Bit:C_s_l11Bit Te) (c_s_l9Old:C_s_l9Old Te) (c_s_l11Cell:C_s_l11Cell Te) (c_s_l9New:C_s_l9New Te):C_s_PutRow (RF Te x_s_PutRow):=by
 intro b r hb h
 obtain ⟨h1,h2,h3⟩:=h
 have l0:=putText_len b r.Key
 have l1:=putRow1_len b r
 have l2:=putRow2_len b r
 refine X0 x_s_PutRow.eq_1 ?_
 refine C0 (c_s_RowOk r ⟨h1,h2,h3⟩) ?_
 cases g:r.ok
 ·try simp -implicitDefEqProofs (maxSteps:=1000000) only [go_sem,putRow,g,if_false,reduceCtorEq]
  repeat refine ⟨sc,?_⟩
  try exact sf
 have ep:putRow b r=putRow3 b r:=if_pos g
 refine G0 ?_
 refine C0 (c_s_PutText b r.Key (by omega) h1) ?_
 refine .of (c_s_l11Bit r.Aside) ?_
 try simp -implicitDefEqProofs (maxSteps:=1000000) only [go_sem,mkU_wrap,app2B,take2B]
 repeat refine ⟨sc,?_⟩
 try exact sf
 have e1:putText b r.Key++[mkU r.Has,bif r.Aside then 1 else 0]=putRow1 b r:=rfl
 have e2:(putText b r.Key).length + 2=(putRow1 b r).length:=by rw [putRow1,List.length_append]; rfl
 simp only [e1,e2]
 have gw:=win13 (rowOk_win g)
 refine C0 (c_s_l9Old r gw) ?_
 by_cases q2:r.Has=2
 ·have k2:decide (r.Has≠2)=false:=by simp only [ne_eq,q2,not_true_eq_false,decide_false]
  have k1:decide (r.Has≠1)=true:=decide_eq_true (by omega)
  have e3:putRow2 b r=putRow1 b r:=if_pos q2
  have e4:putRow3 b r=putCell (putRow1 b r) r.New:=by rw [putRow3,if_neg (by omega),e3]
  refine G1 k2 ?_
  refine C1 (c_s_l9New r gw) k1 ?_
  exact D2 (c_s_l11Cell (putRow1 b r) r.New (by omega) h3) ep e4
 ·have k2:decide (r.Has≠2)=true:=decide_eq_true q2
  have e3:putRow2 b r=putCell (putRow1 b r) r.Old:=if_neg q2
  have tt:=c_s_l11Cell (putRow1 b r) r.Old (by omega) h2
  rw [← e3] at tt
  refine G1 k2 ?_
  refine C0 (tt) ?_
  refine C0 (c_s_l9New r gw) ?_
  by_cases q1:r.Has=1
  ·have k1:decide (r.Has≠1)=false:=by simp only [ne_eq,q1,not_true_eq_false,decide_false]
   have e4:putRow3 b r=putRow2 b r:=if_pos q1
   exact F3 k1 ep e4
  ·have k1:decide (r.Has≠1)=true:=decide_eq_true q1
   have e4:putRow3 b r=putCell (putRow2 b r) r.New:=if_neg q1
   refine G1 k1 ?_
   exact D2 (c_s_l11Cell (putRow2 b r) r.New (by omega) h3) ep e4
def x_l_szByteS:FnX:=⟨12,[.tmp 4],
  .q [.i 4 0]
 (.q [.m 5 1,.m 6 0,.n 7 6,.b 8 .sub 5 7,.m 1 8]
 (.seq (.q [.m 9 1,.B 10 .lss 9 0]
 (.c 10 (.q [.i 4 (-1)]
 .ret)))
 (.q [.m 11 1,.m 4 11]
 .ret)))⟩
theorem r_l_szByteS {Te:TE}:C_l_szByteS (RF Te x_l_szByteS):=by
 intro l k hl hk
 refine run0 ?_
 simp -implicitDefEqProofs (maxSteps:=1000000) (disch:=omega) only [x_l_szByteS,go_sem,IntWalk.i64_in]
 refine ⟨fun h=>?_,fun h=>?_⟩
 ·simp only [decide_eq_true_eq] at h
  simp only [left,if_pos h]
 ·simp only [decide_eq_false_iff_not] at h
  simp only [left,if_neg h]
def x_l_toByteS:FnX:=⟨22,[.tmp 2],
  .q [.op 2 (.mv (.k (.one (.nils 1))))]
 (.q [.m 5 0,.n 6 5,.op 7 (.mks 1 1 [.pv (.int .u8 0)] (.t 6)),.m 3 7]
 (.seq (.q [.i 4 0]
 (.block 0 (.loop [0,3,4] (.seq (.q [.m 8 4,.m 9 0,.n 10 9,.b 11 .lss 8 10]
 (.cond 11 .skip (.exit 0)))
 (.seq (.block 1 (.reg [.m 14 3,.m 15 4,.m 16 0,.m 17 4,.x 18 1 16 17,.l 19 18,.x 20 1 14 15,.s 100001 1 20 19]))
 (.reg [.m 12 4,.B 13 .add 12 1,.m 4 13]))))))
 (.norm [3] (.q [.m 21 3,.m 2 21]
 .ret))))⟩
theorem r_l_toByteS {Te:TE}:C_l_toByteS (RF Te x_l_toByteS):=by
 intro l hl
 refine run0 ?_
 simp -implicitDefEqProofs (maxSteps:=1000000) (disch:=omega) only [x_l_toByteS,go_sem,IntWalk.i64_in]
 refine ⟨⟨by simp only [decide_eq_true_eq]; omega,by simp only [decide_eq_true_eq]; omega⟩,?_⟩
 refine loop_of (σ:=Nat) (fun i=>⟨[(0,.one (.ro 1 (l.map uR))),(3,.one (.rf 23 0 [] 1 0 l.length)),(4,.one (.pv (.int .i64 i)))],[],
  [(0,[slT false 1 uR l]),(23,[.sl true 1 () ((l.take i).map uR++List.replicate (l.length - i) [.pv (.int .u8 0)])])]⟩) (fun i=>i≤l.length) (fun i=>l.length - i) 0 ?_ (Nat.zero_le _) ?_
 ·simp -implicitDefEqProofs (maxSteps:=1000000) only [go_sem]; rfl
 ·intro i hi
  simp -implicitDefEqProofs (maxSteps:=1000000) only [go_sem]
  refine ⟨fun h=>?_,fun h=>?_⟩
  ·have hi':i < l.length:=by simp only [decide_eq_true_eq] at h; omega
   simp -implicitDefEqProofs (maxSteps:=1000000) only [go_sem,List.getElem?_eq_getElem hi',fill_len uR l [.pv (.int .u8 0)] hi,storeAp,setCells,List.getD_eq_getElem?_getD,fill_get uR l [.pv (.int .u8 0)] hi']
   repeat (first | refine ⟨by decide,?_⟩ | refine ⟨by simpa using hi',?_⟩)
   refine ⟨i + 1,?_,hi',by omega⟩
   rw [← fill_set uR l [.pv (.int .u8 0)] hi',IntWalk.i64_in _ (by omega)]
   rfl
  ·have:i=l.length:=by simp only [decide_eq_false_iff_not] at h; omega
   subst this
   simp -implicitDefEqProofs (maxSteps:=1000000) only [go_sem,fill_len uR l [.pv (.int .u8 0)] hi,fill_end]
   refine ⟨by simp,?_⟩
   simp [take_map]
def x_l_eqByteS:FnX:=⟨26,[.tmp 4],
  .q [.F 4]
 (.seq (.q [.m 6 0,.n 7 6,.m 8 1,.n 9 8,.b 10 .neq 7 9]
 (.c 10 (.q [.F 4]
 .ret)))
 (.seq (.q [.i 5 0]
 (.block 0 (.loop [0,1,5] (.seq (.q [.m 11 5,.m 12 0,.n 13 12,.b 14 .lss 11 13]
 (.cond 14 .skip (.exit 0)))
 (.seq (.block 1 (.seq (.draw [.m 17 0,.m 18 5,.x 19 1 17 18,.l 20 19,.m 21 1,.m 22 5,.x 23 1 21 22,.l 24 23,.b 25 .neq 20 24] [[],[],[0,1],[2],[],[],[4,5],[6],[3,7]])
 (.c 25 (.q [.F 4]
 .ret))))
 (.reg [.m 15 5,.B 16 .add 15 1,.m 5 16]))))))
 (.norm [] (.q [.T 4]
 .ret))))⟩
theorem r_l_eqByteS {Te:TE}:C_l_eqByteS (RF Te x_l_eqByteS):=by
 intro l m hl
 refine run0 ?_
 simp -implicitDefEqProofs (maxSteps:=1000000) (disch:=omega) only [x_l_eqByteS,go_sem,IntWalk.i64_in]
 refine ⟨fun h=>?_,fun h=>?_⟩
 ·have:l≠m:=fun e=>by simp [e] at h
  simp [this]
 ·have hlen:l.length=m.length:=by simp at h; omega
  refine loop_of (σ:=Nat) (fun i=>⟨[(0,.one (.ro 1 (l.map uR))),(1,.one (.ro 1 (m.map uR))),(5,.one (.pv (.int .i64 i)))],[],[(0,[slT false 1 uR l]),(1,[slT false 1 uR m])]⟩) (fun i=>i≤l.length∧l.take i=m.take i) (fun i=>l.length - i) 0 ?_ ⟨Nat.zero_le _,by simp⟩ ?_
  ·simp -implicitDefEqProofs (maxSteps:=1000000) only [go_sem]; rfl
  ·intro i ⟨hi,hs⟩
   simp -implicitDefEqProofs (maxSteps:=1000000) only [go_sem]
   refine ⟨fun h=>?_,fun h=>?_⟩
   ·have hi':i < l.length:=by simp only [decide_eq_true_eq] at h; omega
    have hj':i < m.length:=by omega
    simp -implicitDefEqProofs (maxSteps:=1000000) only [go_sem,List.getElem?_eq_getElem hi',List.getElem?_eq_getElem hj',byte_neq]
    refine ⟨by decide,fun h2=>?_,fun h2=>?_⟩
    ·have:l≠m:=fun e=>by subst e; simp at h2
     simp [this]
    ·refine ⟨i + 1,by rw [IntWalk.i64_in _ (by omega)]; rfl,⟨hi',same_step hi' hj' hs ?_⟩,by omega⟩
     simpa using h2
   ·have hle:l.length≤i:=by simp only [decide_eq_false_iff_not] at h; omega
    have:l=m:=same_end hle (by omega) hs
    simp [this]
def x_l_markByteS:FnX:=⟨20,[.tmp 4],
  .q [.i 4 0]
 (.seq (.q [.i 5 0]
 (.block 0 (.loop [0,1,5] (.seq (.q [.m 6 5,.m 7 0,.n 8 7,.b 9 .lss 6 8]
 (.cond 9 .skip (.exit 0)))
 (.seq (.block 1 (.q [.m 12 0,.m 13 5,.m 14 1,.op 15 (.conv (.int .u8) (.t 14)),.x 16 1 12 13,.s 100001 1 16 15]
 (.reg [.m 17 1,.B 18 .add 17 1,.m 1 18])))
 (.reg [.m 10 5,.B 11 .add 10 1,.m 5 11]))))))
 (.norm [1] (.q [.m 19 1,.m 4 19]
 .ret)))⟩
theorem r_l_markByteS {Te:TE}:C_l_markByteS (RF Te x_l_markByteS):=by
 intro l k hl hk
 refine run0 ?_
 simp -implicitDefEqProofs (maxSteps:=1000000) (disch:=omega) only [x_l_markByteS,go_sem,IntWalk.i64_in]
 refine loop_of (σ:=Nat) (fun i=>⟨[(0,.one (.rf 0 0 [] 1 0 l.length)),(1,.one (.pv (.int .i64 (k + (1 * i:Nat))))),(5,.one (.pv (.int .i64 i)))],[],[(0,[.sl true 1 () ((marks 1 mkU i k).map uR++(l.drop i).map uR)]),(1,[iT k])]⟩) (fun i=>i≤l.length) (fun i=>l.length - i) 0 ?_ (Nat.zero_le _) ?_
 ·simp -implicitDefEqProofs (maxSteps:=1000000) only [go_sem]; simp [marks]
 ·intro i hi
  simp -implicitDefEqProofs (maxSteps:=1000000) only [go_sem]
  refine ⟨fun h=>?_,fun h=>?_⟩
  ·have hi':i < l.length:=by simp only [decide_eq_true_eq] at h; omega
   try simp -implicitDefEqProofs (maxSteps:=1000000) (disch:=omega) only [go_sem,storeAp,setCells,List.length_set,List.set_set,mark_len uR 1 mkU l k hi,List.getD_eq_getElem?_getD,mark_get uR 1 mkU l k hi',mark_reget uR 1 mkU l k hi',Option.getD_some,IntWalk.i64_in,mkU_wrap]
   repeat (first | refine ⟨by decide,?_⟩ | refine ⟨decide_eq_true hi',?_⟩)
   refine ⟨i + 1,?_,hi',by omega⟩
   rw [← mark_set uR 1 mkU l k hi',show k + ((1 * (i + 1):Nat):Int)=k + (1 * i:Nat) + 1 by omega]
   rfl
  ·have:i=l.length:=by simp only [decide_eq_false_iff_not] at h; omega
   subst this
   simp -implicitDefEqProofs (maxSteps:=1000000) only [go_sem,mark_end]
def x_l_heldByteS:FnX:=⟨22,[.tmp 4],
  .q [.i 4 0]
 (.seq (.q [.i 5 0]
 (.block 0 (.loop [0,1,5] (.seq (.q [.m 6 5,.m 7 0,.n 8 7,.b 9 .lss 6 8]
 (.cond 9 .skip (.exit 0)))
 (.seq (.block 1 (.seq (.q [.m 12 0,.m 13 5,.x 14 1 12 13,.l 15 14,.m 16 1,.op 17 (.conv (.int .u8) (.t 16)),.b 18 .neq 15 17]
 (.c 18 (.q [.i 4 (-1)]
 .ret)))
 (.reg [.m 19 1,.B 20 .add 19 1,.m 1 20])))
 (.reg [.m 10 5,.B 11 .add 10 1,.m 5 11]))))))
 (.norm [1] (.q [.m 21 1,.m 4 21]
 .ret)))⟩
theorem r_l_heldByteS {Te:TE}:C_l_heldByteS (RF Te x_l_heldByteS):=by
 intro n k hl hk
 refine run0 ?_
 simp -implicitDefEqProofs (maxSteps:=1000000) (disch:=omega) only [x_l_heldByteS,go_sem,IntWalk.i64_in]
 refine loop_of (σ:=Nat) (fun i=>⟨[(0,.one (.ro 1 ((marks 1 mkU n k).map uR))),(1,.one (.pv (.int .i64 (k + (1 * i:Nat))))),(5,.one (.pv (.int .i64 i)))],[],[(0,[slT false 1 uR (marks 1 mkU n k)]),(1,[iT k])]⟩) (fun i=>i≤n) (fun i=>n - i) 0 ?_ (Nat.zero_le _) ?_
 ·simp -implicitDefEqProofs (maxSteps:=1000000) only [go_sem]; simp
 ·intro i hi
  simp -implicitDefEqProofs (maxSteps:=1000000) only [go_sem,marks_length]
  refine ⟨fun h=>?_,fun h=>?_⟩
  ·have hi':i < n:=by simp only [decide_eq_true_eq] at h; omega
   try simp -implicitDefEqProofs (maxSteps:=1000000) (disch:=omega) only [go_sem,marks_get 1 mkU k hi',IntWalk.i64_in,mkU_wrap,bne_self_eq_false,decide_true,Bool.not_true]
   refine ⟨i + 1,?_,hi',by omega⟩
   rw [show k + ((1 * (i + 1):Nat):Int)=k + (1 * i:Nat) + 1 by omega]
   rfl
  ·have:i=n:=by simp only [decide_eq_false_iff_not] at h; omega
   subst this
   simp -implicitDefEqProofs (maxSteps:=1000000) only [go_sem]
def x_l_markRowS:FnX:=⟨69,[.tmp 4],
  .q [.i 4 0]
 (.seq (.q [.i 5 0]
 (.block 0 (.loop [0,1,5] (.seq (.q [.m 6 5,.m 7 0,.n 8 7,.b 9 .lss 6 8]
 (.cond 9 .skip (.exit 0)))
 (.seq (.block 1 (.q [.m 12 0,.m 13 5,.m 14 1,.c 15 38 [14],.x 16 7 12 13,.f 17 16 0,.s 100001 1 17 15]
 (.q [.m 18 1,.B 19 .add 18 1,.m 1 19]
 (.q [.m 20 0,.m 21 5,.m 22 1,.x 23 7 20 21,.f 24 23 1,.f 25 24 0,.s 100002 1 25 22]
 (.q [.m 26 1,.B 27 .add 26 1,.m 1 27]
 (.q [.m 28 0,.m 29 5,.x 30 7 28 29,.f 31 30 1,.f 32 31 1,.l 33 32,.m 34 1,.op 35 (.io 171 (.t 33) [(.t 34)]),.m 1 35]
 (.q [.m 36 0,.m 37 5,.m 38 1,.x 39 7 36 37,.f 40 39 3,.f 41 40 0,.s 100003 1 41 38]
 (.q [.m 42 1,.B 43 .add 42 1,.m 1 43]
 (.q [.m 44 0,.m 45 5,.x 46 7 44 45,.f 47 46 3,.f 48 47 1,.l 49 48,.m 50 1,.op 51 (.io 171 (.t 49) [(.t 50)]),.m 1 51]
 (.q [.m 52 0,.m 53 5,.m 54 1,.x 55 7 52 53,.f 56 55 5,.s 100004 1 56 54]
 (.q [.m 57 1,.B 58 .add 57 1,.m 1 58]
 (.q [.m 59 0,.m 60 5,.m 61 1,.B 62 .rem 61 3,.B 63 .eql 62 0,.x 64 7 59 60,.f 65 64 6,.s 100005 1 65 63]
 (.reg [.m 66 1,.B 67 .add 66 1,.m 1 67])))))))))))))
 (.reg [.m 10 5,.B 11 .add 10 1,.m 5 11]))))))
 (.norm [1] (.q [.m 68 1,.m 4 68]
 .ret)))⟩
theorem r_l_markRowS {Te:TE} (c_l_markText:C_l_markText Te) (c_l_markByteS:C_l_markByteS Te):C_l_markRowS (RF Te x_l_markRowS):=by
 intro l k hl hk
 refine run0 ?_
 have hl1:=hl.1
 simp -implicitDefEqProofs (maxSteps:=1000000) (disch:=omega) only [x_l_markRowS,go_sem,IntWalk.i64_in]
 refine loop_of (σ:=Nat) (fun i=>⟨[(0,.one (.rf 0 0 [] 7 0 l.length)),(1,.one (.pv (.int .i64 (farL RowV.farE (l.take i) k)))),(5,.one (.pv (.int .i64 i)))],[],[(0,[.sl true 7 () ((markL RowV.markE RowV.farE (l.take i) k).map (RowV.enc true)++(l.drop i).map (RowV.enc true))]),(1,[iT k])]⟩) (fun i=>i≤l.length) (fun i=>l.length - i) 0 ?_ (Nat.zero_le _) ?_
 ·simp -implicitDefEqProofs (maxSteps:=1000000) only [go_sem]; simp [markL,farL]
 ·intro i hi
  simp -implicitDefEqProofs (maxSteps:=1000000) only [go_sem]
  refine ⟨fun h=>?_,fun h=>?_⟩
  ·have hi':i < l.length:=by simp only [decide_eq_true_eq] at h; omega
   have hb:k≤farL RowV.farE (l.take i) k∧farL RowV.farE (l.take i) k≤k + 8796103507968:=by
    have q:=farL_le (n:=2 ^ 21) (k:=k) (c:=4194309) (l:=l.take i) ⟨by rw [List.length_take]; omega,fun y hy=>hl.2 y (List.mem_of_mem_take hy)⟩ (fun y hy k=>RowV.farE_le hy k)
    omega
   have he:=hl.2 _ (List.getElem_mem hi')
   have hset:=markL_set (RowV.enc true) RowV.markE RowV.farE l k hi'
   have hnext:=farL_take RowV.farE l k hi'
   have e0:l[i].Old.B.length≤2 ^ 21:=he.1
   have e1:l[i].New.B.length≤2 ^ 21:=he.2
   generalize farL RowV.farE (l.take i) k=j at hb hset hnext ⊢
   try simp -implicitDefEqProofs (maxSteps:=1000000) (disch:=omega) only [go_sem,storeAp,setCells,List.length_set,List.set_set,markL_len (RowV.enc true) RowV.markE RowV.farE l k hi,List.getD_eq_getElem?_getD,markL_at (RowV.enc true) RowV.markE RowV.farE l k hi',markL_reat (RowV.enc true) RowV.markE RowV.farE l k hi',Option.getD_some,IntWalk.i64_in]
   repeat (first | refine ⟨by decide,?_⟩ | refine ⟨decide_eq_true hi',?_⟩)
   refine .of (c_l_markText _ (by omega)) ?_
   simp -implicitDefEqProofs (maxSteps:=1000000) (disch:=omega) only [go_sem,storeAp,setCells,List.length_set,List.set_set,markL_len (RowV.enc true) RowV.markE RowV.farE l k hi,List.getD_eq_getElem?_getD,markL_at (RowV.enc true) RowV.markE RowV.farE l k hi',markL_reat (RowV.enc true) RowV.markE RowV.farE l k hi',Option.getD_some,IntWalk.i64_in]
   repeat (first | refine ⟨by decide,?_⟩ | refine ⟨decide_eq_true hi',?_⟩)
   refine .of (c_l_markByteS (l[i].Old.B) _ (by omega) (by omega)) ?_
   simp -implicitDefEqProofs (maxSteps:=1000000) (disch:=omega) only [go_sem,storeAp,setCells,List.length_set,List.set_set,markL_len (RowV.enc true) RowV.markE RowV.farE l k hi,List.getD_eq_getElem?_getD,markL_at (RowV.enc true) RowV.markE RowV.farE l k hi',markL_reat (RowV.enc true) RowV.markE RowV.farE l k hi',Option.getD_some,IntWalk.i64_in]
   repeat (first | refine ⟨by decide,?_⟩ | refine ⟨decide_eq_true hi',?_⟩)
   refine .of (c_l_markByteS (l[i].New.B) _ (by omega) (by omega)) ?_
   simp -implicitDefEqProofs (maxSteps:=1000000) (disch:=omega) only [go_sem,storeAp,setCells,List.length_set,List.set_set,markL_len (RowV.enc true) RowV.markE RowV.farE l k hi,List.getD_eq_getElem?_getD,markL_at (RowV.enc true) RowV.markE RowV.farE l k hi',markL_reat (RowV.enc true) RowV.markE RowV.farE l k hi',Option.getD_some,IntWalk.i64_in]
   repeat (first | refine ⟨by decide,?_⟩ | refine ⟨decide_eq_true hi',?_⟩)
   refine ⟨i + 1,?_,hi',by omega⟩
   rw [hnext,← hset]
   rfl
  ·have:i=l.length:=by simp only [decide_eq_false_iff_not] at h; omega
   subst this
   simp -implicitDefEqProofs (maxSteps:=1000000) only [go_sem,List.take_length,List.drop_length,List.map_nil,List.append_nil]
def x_s_HeadOf:FnX:=⟨24,[.tmp 4],
  .q [.op 4 (.mv (.k (.one (.nils 1))))]
 (.seq (.q [.m 6 0,.op 7 (.call 42 [0,0,0] [(.t 6),(.i 1),(.i 60000)]),.N 8 7,.m 9 8,.z 9 (.m 10 1),.z 9 (.op 11 (.call 42 [0,0,0] [(.t 10),(.i 0),(.i 30)])),.z 9 (.N 12 11),.r 13 9 12]
 (.c 13 (.q [.op 14 (.bslice 1 []),.m 4 14]
 .ret)))
 (.q [.op 15 (.bslice 1 []),.m 16 0,.c 17 186 [15,16],.m 18 1,.c 19 186 [17,18],.m 5 19]
 (.q [.m 20 5,.m 21 5,.c 22 189 [21],.c 23 186 [20,22],.m 4 23]
 .ret)))⟩
theorem r_s_HeadOf {Te:TE} (c_s_l1In:C_s_l1In Te) (c_s_PutW:C_s_PutW Te) (c_s_Sum:C_s_Sum Te):C_s_HeadOf (RF Te x_s_HeadOf):=by
 intro gen n
 refine X0 x_s_HeadOf.eq_1 ?_
 refine C0 (c_s_l1In _ _ _) ?_
 cases g1:win gen 1 60000
 ·have e:headOf gen n=[]:=by rw [headOf,headGood,g1]; rfl
  exact F1 e
 refine G0 ?_
 refine C0 (c_s_l1In _ _ _) ?_
 cases g2:win n 0 30
 ·have e:headOf gen n=[]:=by rw [headOf,headGood,g1,g2]; rfl
  exact F1 e
 refine G0 ?_
 have e:headOf gen n=putW (putW (putW [] gen) n) (sum (putW (putW [] gen) n):Nat):=by rw [headOf,headGood,g1,g2]; rfl
 have l1:(putW (putW [] gen) n).length=4:=by rw [putW_len,putW_len]; rfl
 have t1:=c_s_PutW [] gen (by show 0≤2 ^ 30; decide)
 refine C0 (t1) ?_
 refine C0 (c_s_PutW (putW [] gen) n (by rw [putW_len]; show 0 + 2≤2 ^ 30; decide)) ?_
 refine C0 (c_s_Sum (putW (putW [] gen) n) (by omega)) ?_
 refine .of (c_s_PutW (putW (putW [] gen) n) _ (by omega)) ?_
 try simp -implicitDefEqProofs (maxSteps:=1000000) only [go_sem,e]
 repeat refine ⟨sc,?_⟩
 try exact sf
end Go.X

