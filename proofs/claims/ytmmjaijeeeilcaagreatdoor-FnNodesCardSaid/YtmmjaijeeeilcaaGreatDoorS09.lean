/- Texts: CVq CVr CR CVzs CVz CVc CT_3 CVz_2 CVzc CVg_4. -/
import Derived.Test.YtmmjaijeeeilcaaGreatDoorS04
set_option linter.unusedVariables false
set_option linter.unusedSimpArgs false
namespace Go.X
set_option maxRecDepth 100000
set_option maxHeartbeats 8000000
def x_i_withMark:FnX:=⟨46,[.tmp 4],
  .q [.v 3 1,.op 4 (.mv (.k (.one (.nils 3))))]
 (.q [.op 9 (.bslice 3 []),.m 5 9]
 (.q [.F 6]
 (.seq (.q [.m 10 0,.n 11 10,.i 12 0]
 (.block 0 (.loop [3,5,6,10,11,12] (.q [.b 13 .lss 12 11]
 (.seq (.cond 13 .skip (.exit 0))
 (.seq (.block 1 (.q [.x 14 3 10 12,.L 15 3 14,.op 8 (.alloc [.i 0,.i 0,.i 0]),.s 100001 3 8 15]
 (.seq (.q [.m 16 6,.N 17 16,.m 18 17,.y 18 (.f 19 8 0),.y 18 (.l 20 19),.y 18 (.f 21 3 0),.y 18 (.l 22 21),.y 18 (.b 23 .geq 20 22),.a 24 18 23]
 (.c 24 (.q [.m 25 5,.L 26 3 3,.op 27 (.bslice 3 [(.t 26)]),.op 28 (.app 3 24 (.t 25) (.t 27)),.m 5 28]
 (.reg [.T 6]))))
 (.q [.f 29 8 0,.l 30 29,.f 31 3 0,.l 32 31,.b 33 .neq 30 32]
 (.c 33 (.reg [.m 34 5,.L 35 3 8,.op 36 (.bslice 3 [(.t 35)]),.op 37 (.app 3 24 (.t 34) (.t 36)),.m 5 37]))))))
 (.reg [.B 38 .add 12 1,.m 12 38])))))))
 (.norm [3,5,6] (.seq (.q [.m 39 6,.N 40 39]
 (.c 40 (.reg [.m 41 5,.L 42 3 3,.op 43 (.bslice 3 [(.t 42)]),.op 44 (.app 3 24 (.t 41) (.t 43)),.m 5 44])))
 (.q [.m 45 5,.m 4 45]
 .ret))))))⟩
theorem r_i_withMark {Te:TE}:C_i_withMark (RF Te x_i_withMark):=by
 intro l m h
 refine X0 x_i_withMark.eq_1 ?_
 refine loop_of (σ:=Nat×List MarkV×Bool) (fun x=>⟨[(3,.bp 3 0),(5,.one (.rf 48 0 [] 3 0 x.2.1.length)),(6,.one (.pv (.bool x.2.2))),(10,.one (.ro 3 (l.map MarkV.row))),(11,.one (.pv (.int .i64 l.length))),(12,.one (.pv (.int .i64 x.1)))],[(3,[.pv (.int .i64 m.Who),.pv (.int .i64 m.Seq),.pv (.int .i64 m.Code)])],[(0,[slT false 3 MarkV.row l]),(1,m.row),(48,[slT true 3 MarkV.row x.2.1])]⟩) (fun x=>x.1≤l.length∧x.2=(l.take x.1).foldl (insM m) ([],false)) (fun x=>l.length - x.1) (0,[],false) ?_ ⟨Nat.zero_le _,rfl⟩ ?_
 ·simp -implicitDefEqProofs (maxSteps:=1000000) only [go_sem]
  try rfl
 ·rintro ⟨i,o,p⟩ ⟨hi,he⟩
  simp only at hi he
  have hol:o.length≤2 * l.length:=by
   have:=insM_le m (l.take i) ([],false)
   rw [← he] at this
   simp only [List.length_nil,List.length_take] at this
   omega
  cases q:decide ((i:Int) < (l.length:Int))
  ·have k0:i=l.length:=by simp only [decide_eq_false_iff_not] at q; omega
   rw [k0,List.take_length] at he
   cases p
   ·have e:insMark l m=o++[m]:=by rw [insMark,← he]; rfl
    have ea:=app1M o m
    have et:List.take (o.length + 1) (List.map MarkV.row (o++[m]))=List.map MarkV.row (o++[m]):=List.take_of_length_le (by simp)
    exact F4 q e ea et
   ·have e:insMark l m=o:=by rw [insMark,← he]; rfl
    exact F2 q e
  ·have k1:i < l.length:=by simp only [decide_eq_true_eq] at q; omega
   have es:=insM_step (m:=m) k1
   rw [← he] at es
   cases g2:decide (l[i].Who≠m.Who) <;> cases g1:decide (l[i].Who≥m.Who) <;> cases p
   all_goals
    have g3:(l[i].Who != m.Who)=decide (l[i].Who≠m.Who):=by simp only [bne,ne_eq]; by_cases h:l[i].Who=m.Who <;> simp [h]
    simp only [insM,g1,g2,Bool.not_true,Bool.not_false,Bool.and_true,Bool.and_false,Bool.or_true,Bool.or_false,Bool.true_or,Bool.false_or,Bool.true_and,Bool.false_and,if_true,if_false,Bool.false_eq_true] at es
    have ea:=app1M o m
    have eb:=app1M o l[i]
    have ec:=app1M (o++[m]) l[i]
    have et:List.take (o.length + 1) (List.map MarkV.row (o++[m]))=List.map MarkV.row (o++[m]):=List.take_of_length_le (by simp)
    try simp -implicitDefEqProofs (maxSteps:=1000000) only [go_sem,q,g1,g3,g2,List.getElem?_eq_getElem k1,take_marks,ea,eb,ec,et]
    repeat refine ⟨sc,?_⟩
   all_goals
    refine ⟨(i + 1,(l.take (i + 1)).foldl (insM m) ([],false)),?_,⟨k1,rfl⟩,by simp only; omega⟩
    rw [← es,IntWalk.i64_in _ (by omega)]
    try simp only [List.length_append]
    rfl
def x_s_l12Put:FnX:=⟨53,[.tmp 4],
  .q [.v 3 1,.op 4 (.mv (.k (.one (.nils 3))))]
 (.q [.op 8 (.bslice 3 []),.m 5 8]
 (.q [.F 6]
 (.seq (.q [.i 7 0]
 (.block 0 (.loop [0,3,5,6,7] (.seq (.q [.m 9 7,.m 10 0,.n 11 10,.b 12 .lss 9 11]
 (.cond 12 .skip (.exit 0)))
 (.seq (.block 1 (.seq (.seq (.draw [.m 15 6,.N 16 15,.m 17 16,.y 17 (.m 18 0),.y 17 (.m 19 7),.y 17 (.x 20 3 18 19),.y 17 (.f 21 20 0),.y 17 (.l 22 21),.y 17 (.f 23 3 0),.y 17 (.l 24 23),.y 17 (.b 25 .geq 22 24),.a 26 17 25] [[],[0],[1],[2],[2],[3,4,2],[5,2],[6,2],[2],[8,2],[7,9,2],[2,10]])
 (.c 26 (.q [.m 27 5,.L 28 3 3,.op 29 (.bslice 3 [(.t 28)]),.op 30 (.app 3 24 (.t 27) (.t 29)),.m 5 30]
 (.reg [.T 6]))))
 (.seq (.draw [.m 31 0,.m 32 7,.x 33 3 31 32,.f 34 33 0,.l 35 34,.f 36 3 0,.l 37 36,.b 38 .neq 35 37] [[],[],[0,1],[2],[3],[],[5],[4,6]])
 (.c 38 (.reg [.m 39 5,.m 40 0,.m 41 7,.x 42 3 40 41,.L 43 3 42,.op 44 (.bslice 3 [(.t 43)]),.op 45 (.app 3 24 (.t 39) (.t 44)),.m 5 45])))))
 (.reg [.m 13 7,.B 14 .add 13 1,.m 7 14]))))))
 (.norm [3,5,6] (.seq (.q [.m 46 6,.N 47 46]
 (.c 47 (.reg [.m 48 5,.L 49 3 3,.op 50 (.bslice 3 [(.t 49)]),.op 51 (.app 3 24 (.t 48) (.t 50)),.m 5 51])))
 (.q [.m 52 5,.m 4 52]
 .ret))))))⟩
theorem r_s_l12Put {Te:TE}:C_s_l12Put (RF Te x_s_l12Put):=by
 intro l m h
 refine X0 x_s_l12Put.eq_1 ?_
 refine loop_of (σ:=Nat×List MarkV×Bool) (fun x=>⟨[(0,.one (.ro 3 (l.map MarkV.row))),(3,.bp 3 0),(5,.one (.rf 55 0 [] 3 0 x.2.1.length)),(6,.one (.pv (.bool x.2.2))),(7,.one (.pv (.int .i64 x.1)))],[(3,[.pv (.int .i64 m.Who),.pv (.int .i64 m.Seq),.pv (.int .i64 m.Code)])],[(0,[slT false 3 MarkV.row l]),(1,m.row),(55,[slT true 3 MarkV.row x.2.1])]⟩) (fun x=>x.1≤l.length∧x.2=(l.take x.1).foldl (insM m) ([],false)) (fun x=>l.length - x.1) (0,[],false) ?_ ⟨Nat.zero_le _,rfl⟩ ?_
 ·simp -implicitDefEqProofs (maxSteps:=1000000) only [go_sem]
  try rfl
 ·rintro ⟨i,o,p⟩ ⟨hi,he⟩
  simp only at hi he
  have hol:o.length≤2 * l.length:=by
   have:=insM_le m (l.take i) ([],false)
   rw [← he] at this
   simp only [List.length_nil,List.length_take] at this
   omega
  cases q:decide ((i:Int) < (l.length:Int))
  ·have k0:i=l.length:=by simp only [decide_eq_false_iff_not] at q; omega
   rw [k0,List.take_length] at he
   cases p
   ·have e:insMark l m=o++[m]:=by rw [insMark,← he]; rfl
    have ea:=app1M o m
    have et:List.take (o.length + 1) (List.map MarkV.row (o++[m]))=List.map MarkV.row (o++[m]):=List.take_of_length_le (by simp)
    exact F4 q e ea et
   ·have e:insMark l m=o:=by rw [insMark,← he]; rfl
    exact F2 q e
  ·have k1:i < l.length:=by simp only [decide_eq_true_eq] at q; omega
   have es:=insM_step (m:=m) k1
   rw [← he] at es
   cases g2:decide (l[i].Who≠m.Who) <;> cases g1:decide (l[i].Who≥m.Who) <;> cases p
   all_goals
    have g3:(l[i].Who != m.Who)=decide (l[i].Who≠m.Who):=by simp only [bne,ne_eq]; by_cases h:l[i].Who=m.Who <;> simp [h]
    simp only [insM,g1,g2,Bool.not_true,Bool.not_false,Bool.and_true,Bool.and_false,Bool.or_true,Bool.or_false,Bool.true_or,Bool.false_or,Bool.true_and,Bool.false_and,if_true,if_false,Bool.false_eq_true] at es
    have ea:=app1M o m
    have eb:=app1M o l[i]
    have ec:=app1M (o++[m]) l[i]
    have et:List.take (o.length + 1) (List.map MarkV.row (o++[m]))=List.map MarkV.row (o++[m]):=List.take_of_length_le (by simp)
    try simp -implicitDefEqProofs (maxSteps:=1000000) only [go_sem,q,g1,g3,g2,List.getElem?_eq_getElem k1,take_marks,ea,eb,ec,et]
    repeat refine ⟨sc,?_⟩
   all_goals
    refine ⟨(i + 1,(l.take (i + 1)).foldl (insM m) ([],false)),?_,⟨k1,rfl⟩,by simp only; omega⟩
    rw [← es,IntWalk.i64_in _ (by omega)]
    try simp only [List.length_append]
    rfl
def x_i_withRow:FnX:=⟨48,[.tmp 4],
  .q [.v 3 1,.op 4 (.mv (.k (.one (.nils 7))))]
 (.q [.op 9 (.bslice 7 []),.m 5 9]
 (.q [.F 6]
 (.seq (.q [.m 10 0,.n 11 10,.i 12 0]
 (.block 0 (.loop [3,5,6,10,11,12] (.q [.b 13 .lss 12 11]
 (.seq (.cond 13 .skip (.exit 0))
 (.seq (.block 1 (.q [.x 14 7 10 12,.L 15 7 14,.op 8 (.alloc [.e,.i 0,.nils 1,.i 0,.nils 1,.i 0,.F]),.s 100001 7 8 15]
 (.seq (.q [.m 16 6,.N 17 16,.m 18 17,.y 18 (.f 19 8 0),.y 18 (.l 20 19),.y 18 (.f 21 3 0),.y 18 (.l 22 21),.y 18 (.b 23 .geq 20 22),.a 24 18 23]
 (.c 24 (.q [.m 25 5,.L 26 7 3,.c 27 252 [26],.op 28 (.bslice 7 [(.t 27)]),.op 29 (.app 7 96 (.t 25) (.t 28)),.m 5 29]
 (.reg [.T 6]))))
 (.q [.f 30 8 0,.l 31 30,.f 32 3 0,.l 33 32,.b 34 .neq 31 33]
 (.c 34 (.reg [.m 35 5,.L 36 7 8,.op 37 (.bslice 7 [(.t 36)]),.op 38 (.app 7 96 (.t 35) (.t 37)),.m 5 38]))))))
 (.reg [.B 39 .add 12 1,.m 12 39])))))))
 (.norm [3,5,6] (.seq (.q [.m 40 6,.N 41 40]
 (.c 41 (.reg [.m 42 5,.L 43 7 3,.c 44 252 [43],.op 45 (.bslice 7 [(.t 44)]),.op 46 (.app 7 96 (.t 42) (.t 45)),.m 5 46])))
 (.q [.m 47 5,.m 4 47]
 .ret))))))⟩
theorem r_i_withRow {Te:TE} (c_i_copyRow:C_i_copyRow Te):C_i_withRow (RF Te x_i_withRow):=by
 intro l r h hr
 refine X0 x_i_withRow.eq_1 ?_
 refine loop_of (σ:=Nat×List RowV×Bool) (fun x=>⟨[(3,.bp 3 0),(5,.one (.rf 50 0 [] 7 0 x.2.1.length)),(6,.one (.pv (.bool x.2.2))),(10,.one (.rf 0 0 [] 7 0 l.length)),(11,.one (.pv (.int .i64 l.length))),(12,.one (.pv (.int .i64 x.1)))],[(3,[.pv (.string r.Key),.pv (.int .i64 r.Old.Tag),.ro 1 (r.Old.B.map uR),.pv (.int .i64 r.New.Tag),.ro 1 (r.New.B.map uR),.pv (.int .i64 r.Has),.pv (.bool r.Aside)])],[(0,[Tr.sl true 7 () (leftRows r l x.1)]),(1,r.enc false),(50,[slT true 7 (RowV.enc true) x.2.1])]⟩) (fun x=>x.1≤l.length∧x.2=(l.take x.1).foldl (insR r) ([],false)) (fun x=>l.length - x.1) (0,[],false) ?_ ⟨Nat.zero_le _,rfl⟩ ?_
 ·simp -implicitDefEqProofs (maxSteps:=1000000) only [go_sem,left_zero]
  try rfl
 ·rintro ⟨i,o,p⟩ ⟨hi,he⟩
  simp only at hi he
  have hol:o.length≤2 * l.length:=by
   have:=insR_le r (l.take i) ([],false)
   rw [← he] at this
   simp only [List.length_nil,List.length_take] at this
   omega
  have ea:=app1Rw o r
  have et:List.take (o.length + 1) (List.map (RowV.enc true) (o++[r]))=List.map (RowV.enc true) (o++[r]):=List.take_of_length_le (by simp)
  cases q:decide ((i:Int) < (l.length:Int))
  ·have k0:i=l.length:=by simp only [decide_eq_false_iff_not] at q; omega
   rw [k0,List.take_length] at he
   subst k0
   cases p
   ·have e:insRow l r=o++[r]:=by rw [insRow,← he]; rfl
    refine G1 q ?_
    exact D3 (c_i_copyRow r hr) e ea et
   ·have e:insRow l r=o:=by rw [insRow,← he]; rfl
    exact F2 q e
  ·have k1:i < l.length:=by simp only [decide_eq_true_eq] at q; omega
   have es:=insR_step (r:=r) k1
   rw [← he] at es
   have eg:=left_get (r:=r) k1
   have ed:(leftRows r l i).getD i []=l[i].enc true:=by rw [List.getD_eq_getElem?_getD,eg]; rfl
   have el:=left_len r l i
   have ex:=left_set (r:=r) k1
   have e1:∀ X:List T,((leftRows r l i).set i X)[i]?=some X:=fun X=>List.getElem?_set_self (by rw [el]; exact k1)
   have e2:∀ X:List T,((leftRows r l i).set i X).getD i []=X:=fun X=>by rw [List.getD_eq_getElem?_getD,e1]; rfl
   have eb:=app1Rw o l[i]
   have ec:=app1Rw (o++[r]) l[i]
   cases g2:decide (l[i].Key=r.Key) <;> cases g1:Op.bytesLess l[i].Key.toList r.Key.toList <;> cases p
   all_goals
    simp only [insR,g1,g2,Bool.not_true,Bool.not_false,Bool.and_true,Bool.and_false,Bool.or_true,Bool.or_false,Bool.true_or,Bool.false_or,Bool.true_and,Bool.false_and,if_true,if_false,Bool.false_eq_true] at es
    simp only [leftR,g2,if_true,if_false,Bool.false_eq_true] at ex
    try simp -implicitDefEqProofs (maxSteps:=1000000) only [go_sem,q,g1,g2,eg,ed,el,ex,e1,e2,List.set_set,List.length_set,take_rows,take_all,ea,eb,ec,et]
    repeat refine ⟨sc,?_⟩
   all_goals try (refine .of (c_i_copyRow r hr) ?_; try simp -implicitDefEqProofs (maxSteps:=1000000) only [go_sem,g1,g2,eg,ed,el,ex,e1,e2,List.set_set,List.length_set,take_rows,take_all,ea,eb,ec,et])
   all_goals
    repeat refine ⟨sc,?_⟩
   all_goals
    refine ⟨(i + 1,(l.take (i + 1)).foldl (insR r) ([],false)),?_,⟨k1,rfl⟩,by simp only; omega⟩
    rw [← es,IntWalk.i64_in _ (by omega)]
    try simp only [List.length_append]
    try rw [left_same k1 g2]
    rfl
def x_i_nineSign:FnX:=⟨21,[.tmp 2],
  .q [.i 2 0]
 (.seq (.q [.m 3 0]
 (.block 0 (.q [.B 5 .eql 3 164,.m 4 5]
 (.cond 4 (.q [.i 2 8364]
 .ret) (.q [.B 7 .eql 3 166,.m 6 7]
 (.cond 6 (.q [.i 2 352]
 .ret) (.q [.B 9 .eql 3 168,.m 8 9]
 (.cond 8 (.q [.i 2 353]
 .ret) (.q [.B 11 .eql 3 180,.m 10 11]
 (.cond 10 (.q [.i 2 381]
 .ret) (.q [.B 13 .eql 3 184,.m 12 13]
 (.cond 12 (.q [.i 2 382]
 .ret) (.q [.B 15 .eql 3 188,.m 14 15]
 (.cond 14 (.q [.i 2 338]
 .ret) (.q [.B 17 .eql 3 189,.m 16 17]
 (.cond 16 (.q [.i 2 339]
 .ret) (.q [.B 19 .eql 3 190,.m 18 19]
 (.c 18 (.q [.i 2 376]
 .ret)))))))))))))))))))
 (.q [.m 20 0,.m 2 20]
 .ret))⟩
theorem r_i_nineSign {Te:TE}:C_i_nineSign (RF Te x_i_nineSign):=by
 intro b
 refine run0 ?_
 cases g0:(b==164)
 rotate_left
 ·simp -implicitDefEqProofs (maxSteps:=1000000) only [x_i_nineSign,go_sem,nine,g0]
  repeat refine ⟨sc,?_⟩
  try exact sf
 cases g1:(b==166)
 rotate_left
 ·simp -implicitDefEqProofs (maxSteps:=1000000) only [x_i_nineSign,go_sem,nine,g1,g0]
  repeat refine ⟨sc,?_⟩
  try exact sf
 cases g2:(b==168)
 rotate_left
 ·simp -implicitDefEqProofs (maxSteps:=1000000) only [x_i_nineSign,go_sem,nine,g2,g0,g1]
  repeat refine ⟨sc,?_⟩
  try exact sf
 cases g3:(b==180)
 rotate_left
 ·simp -implicitDefEqProofs (maxSteps:=1000000) only [x_i_nineSign,go_sem,nine,g3,g0,g1,g2]
  repeat refine ⟨sc,?_⟩
  try exact sf
 cases g4:(b==184)
 rotate_left
 ·simp -implicitDefEqProofs (maxSteps:=1000000) only [x_i_nineSign,go_sem,nine,g4,g0,g1,g2,g3]
  repeat refine ⟨sc,?_⟩
  try exact sf
 cases g5:(b==188)
 rotate_left
 ·simp -implicitDefEqProofs (maxSteps:=1000000) only [x_i_nineSign,go_sem,nine,g5,g0,g1,g2,g3,g4]
  repeat refine ⟨sc,?_⟩
  try exact sf
 cases g6:(b==189)
 rotate_left
 ·simp -implicitDefEqProofs (maxSteps:=1000000) only [x_i_nineSign,go_sem,nine,g6,g0,g1,g2,g3,g4,g5]
  repeat refine ⟨sc,?_⟩
  try exact sf
 cases g7:(b==190)
 rotate_left
 ·simp -implicitDefEqProofs (maxSteps:=1000000) only [x_i_nineSign,go_sem,nine,g7,g0,g1,g2,g3,g4,g5,g6]
  repeat refine ⟨sc,?_⟩
  try exact sf
 simp -implicitDefEqProofs (maxSteps:=1000000) only [x_i_nineSign,go_sem,nine,g0,g1,g2,g3,g4,g5,g6,g7]
 repeat refine ⟨sc,?_⟩
 try exact sf
def x_s_l3Nine:FnX:=⟨21,[.tmp 2],
  .q [.i 2 0]
 (.seq (.q [.m 3 0]
 (.block 0 (.q [.B 5 .eql 3 164,.m 4 5]
 (.cond 4 (.q [.i 2 8364]
 .ret) (.q [.B 7 .eql 3 166,.m 6 7]
 (.cond 6 (.q [.i 2 352]
 .ret) (.q [.B 9 .eql 3 168,.m 8 9]
 (.cond 8 (.q [.i 2 353]
 .ret) (.q [.B 11 .eql 3 180,.m 10 11]
 (.cond 10 (.q [.i 2 381]
 .ret) (.q [.B 13 .eql 3 184,.m 12 13]
 (.cond 12 (.q [.i 2 382]
 .ret) (.q [.B 15 .eql 3 188,.m 14 15]
 (.cond 14 (.q [.i 2 338]
 .ret) (.q [.B 17 .eql 3 189,.m 16 17]
 (.cond 16 (.q [.i 2 339]
 .ret) (.q [.B 19 .eql 3 190,.m 18 19]
 (.c 18 (.q [.i 2 376]
 .ret)))))))))))))))))))
 (.q [.m 20 0,.m 2 20]
 .ret))⟩
theorem r_s_l3Nine {Te:TE}:C_s_l3Nine (RF Te x_s_l3Nine):=by
 intro b
 refine run0 ?_
 cases g0:(b==164)
 rotate_left
 ·simp -implicitDefEqProofs (maxSteps:=1000000) only [x_s_l3Nine,go_sem,nine,g0]
  repeat refine ⟨sc,?_⟩
  try exact sf
 cases g1:(b==166)
 rotate_left
 ·simp -implicitDefEqProofs (maxSteps:=1000000) only [x_s_l3Nine,go_sem,nine,g1,g0]
  repeat refine ⟨sc,?_⟩
  try exact sf
 cases g2:(b==168)
 rotate_left
 ·simp -implicitDefEqProofs (maxSteps:=1000000) only [x_s_l3Nine,go_sem,nine,g2,g0,g1]
  repeat refine ⟨sc,?_⟩
  try exact sf
 cases g3:(b==180)
 rotate_left
 ·simp -implicitDefEqProofs (maxSteps:=1000000) only [x_s_l3Nine,go_sem,nine,g3,g0,g1,g2]
  repeat refine ⟨sc,?_⟩
  try exact sf
 cases g4:(b==184)
 rotate_left
 ·simp -implicitDefEqProofs (maxSteps:=1000000) only [x_s_l3Nine,go_sem,nine,g4,g0,g1,g2,g3]
  repeat refine ⟨sc,?_⟩
  try exact sf
 cases g5:(b==188)
 rotate_left
 ·simp -implicitDefEqProofs (maxSteps:=1000000) only [x_s_l3Nine,go_sem,nine,g5,g0,g1,g2,g3,g4]
  repeat refine ⟨sc,?_⟩
  try exact sf
 cases g6:(b==189)
 rotate_left
 ·simp -implicitDefEqProofs (maxSteps:=1000000) only [x_s_l3Nine,go_sem,nine,g6,g0,g1,g2,g3,g4,g5]
  repeat refine ⟨sc,?_⟩
  try exact sf
 cases g7:(b==190)
 rotate_left
 ·simp -implicitDefEqProofs (maxSteps:=1000000) only [x_s_l3Nine,go_sem,nine,g7,g0,g1,g2,g3,g4,g5,g6]
  repeat refine ⟨sc,?_⟩
  try exact sf
 simp -implicitDefEqProofs (maxSteps:=1000000) only [x_s_l3Nine,go_sem,nine,g0,g1,g2,g3,g4,g5,g6,g7]
 repeat refine ⟨sc,?_⟩
 try exact sf
def x_i_koiSign:FnX:=⟨26,[.tmp 2],
  .q [.i 2 0]
 (.q [.op 4 (.build [.i 0,.i 0,.i 0,.i 0,.i 0,.i 0,.i 0,.i 0,.i 0,.i 0,.i 0,.i 0,.i 0,.i 0,.i 0,.i 0,.i 0,.i 0,.i 0,.i 0,.i 0,.i 0,.i 0,.i 0,.i 0,.i 0,.i 0,.i 0,.i 0,.i 0,.i 0,.i 0] [(0,1,(.i 1102)),(1,1,(.i 1072)),(2,1,(.i 1073)),(3,1,(.i 1094)),(4,1,(.i 1076)),(5,1,(.i 1077)),(6,1,(.i 1092)),(7,1,(.i 1075)),(8,1,(.i 1093)),(9,1,(.i 1080)),(10,1,(.i 1081)),(11,1,(.i 1082)),(12,1,(.i 1083)),(13,1,(.i 1084)),(14,1,(.i 1085)),(15,1,(.i 1086)),(16,1,(.i 1087)),(17,1,(.i 1103)),(18,1,(.i 1088)),(19,1,(.i 1089)),(20,1,(.i 1090)),(21,1,(.i 1091)),(22,1,(.i 1078)),(23,1,(.i 1074)),(24,1,(.i 1100)),(25,1,(.i 1099)),(26,1,(.i 1079)),(27,1,(.i 1096)),(28,1,(.i 1101)),(29,1,(.i 1097)),(30,1,(.i 1095)),(31,1,(.i 1098))]),.op 3 (.alloc [.i 0,.i 0,.i 0,.i 0,.i 0,.i 0,.i 0,.i 0,.i 0,.i 0,.i 0,.i 0,.i 0,.i 0,.i 0,.i 0,.i 0,.i 0,.i 0,.i 0,.i 0,.i 0,.i 0,.i 0,.i 0,.i 0,.i 0,.i 0,.i 0,.i 0,.i 0,.i 0]),.s 100001 32 3 4]
 (.seq (.block 0 (.q [.m 6 0,.B 7 .geq 6 224,.m 5 7]
 (.cond 5 (.q [.m 8 0,.B 9 .sub 8 224,.op 10 (.aaddr 32 1 (.t 3) (.t 9)),.l 11 10,.B 12 .sub 11 32,.m 2 12]
 .ret) (.q [.m 14 0,.B 15 .geq 14 192,.m 13 15]
 (.cond 13 (.q [.m 16 0,.B 17 .sub 16 192,.op 18 (.aaddr 32 1 (.t 3) (.t 17)),.l 19 18,.m 2 19]
 .ret) (.q [.m 21 0,.B 22 .eql 21 163,.m 20 22]
 (.cond 20 (.q [.i 2 1105]
 .ret) (.q [.m 24 0,.B 25 .eql 24 179,.m 23 25]
 (.c 23 (.q [.i 2 1025]
 .ret))))))))))
 (.q [.i 2 0]
 .ret)))⟩
theorem r_i_koiSign {Te:TE}:C_i_koiSign (RF Te x_i_koiSign):=by
 intro b hb
 refine run0 ?_
 cases g1:decide (b≥224)
 ·cases g2:decide (b≥192)
  ·cases g3:(b==163)
   ·cases g4:(b==179)
    ·simp -implicitDefEqProofs (maxSteps:=1000000) only [x_i_koiSign,go_sem,koi,g1,g2,g3,g4]
     repeat refine ⟨sc,?_⟩
     try exact sf
    ·simp -implicitDefEqProofs (maxSteps:=1000000) only [x_i_koiSign,go_sem,koi,g1,g2,g3,g4]
     repeat refine ⟨sc,?_⟩
     try exact sf
   ·simp -implicitDefEqProofs (maxSteps:=1000000) only [x_i_koiSign,go_sem,koi,g1,g2,g3]
    repeat refine ⟨sc,?_⟩
    try exact sf
  ·simp only [decide_eq_true_eq] at g2
   have e:IntKind.i64.wrap (b - 192)=b - 192:=IntWalk.i64_in _ (by omega)
   simp only [decide_eq_false_iff_not] at g1
   have hk:(b - 192).toNat < 32:=by omega
   have q1:=decide_eq_false g1
   have q2:=decide_eq_true g2
   simp -implicitDefEqProofs (maxSteps:=1000000) only [x_i_koiSign,go_sem,koi,q1,q2,e,Nat.mul_one]
   repeat refine ⟨sc,?_⟩
   try exact sf
   try simp -implicitDefEqProofs (maxSteps:=1000000) only [go_sem,koi_cel hk,q1,q2]
   repeat refine ⟨sc,?_⟩
   try exact sf
 ·simp only [decide_eq_true_eq] at g1
  have e:IntKind.i64.wrap (b - 224)=b - 224:=IntWalk.i64_in _ (by omega)
  have hk:(b - 224).toNat < 32:=by omega
  have q1:=decide_eq_true g1
  have hv:=koi_in ⟨(b - 224).toNat,hk⟩
  have e2:IntKind.i64.wrap (koiL.getD (b - 224).toNat 0 - 32)=koiL.getD (b - 224).toNat 0 - 32:=IntWalk.i64_in _ (by simp only at hv; omega)
  simp -implicitDefEqProofs (maxSteps:=1000000) only [x_i_koiSign,go_sem,koi,q1,e,Nat.mul_one]
  repeat refine ⟨sc,?_⟩
  try exact sf
  try simp -implicitDefEqProofs (maxSteps:=1000000) only [go_sem,koi_cel hk,q1,e2]
  repeat refine ⟨sc,?_⟩
  try exact sf
def x_l_sameCell:FnX:=⟨19,[.tmp 4],
  .q [.v 2 0,.v 3 1,.F 4]
 (.q [.f 5 2 0,.l 6 5,.f 7 3 0,.l 8 7,.b 9 .eql 6 8,.m 10 9,.y 10 (.f 11 2 1),.y 10 (.l 12 11),.y 10 (.op 13 (.conv .b2s (.t 12))),.y 10 (.f 14 3 1),.y 10 (.l 15 14),.y 10 (.op 16 (.conv .b2s (.t 15))),.y 10 (.b 17 .eql 13 16),.a 18 10 17,.m 4 18]
 .ret)⟩
theorem r_l_sameCell {Te:TE}:C_l_sameCell (RF Te x_l_sameCell):=by
 intro a
 refine run0 ?_
 have eI:∀ z:Int,(z==z)=true:=fun z=>beq_self_eq_true z
 have eL:∀ z:List UInt8,(z==z)=true:=fun z=>beq_self_eq_true z
 have ea:=areBytes_uR a.B
 have fa:=bytesOf_uR a.B
 simp -implicitDefEqProofs (maxSteps:=1000000) only [x_l_sameCell,go_sem,eI,ea,fa,eL]
 repeat refine ⟨sc,?_⟩
 try exact sf
def x_l_sameRow:FnX:=⟨38,[.tmp 4],
  .q [.v 2 0,.v 3 1,.F 4]
 (.q [.f 5 2 0,.l 6 5,.f 7 3 0,.l 8 7,.b 9 .eql 6 8,.m 10 9,.y 10 (.f 11 2 1),.y 10 (.L 12 2 11),.y 10 (.f 13 3 1),.y 10 (.L 14 2 13),.y 10 (.c 15 302 [12,14]),.a 16 10 15,.m 17 16,.y 17 (.f 18 2 3),.y 17 (.L 19 2 18),.y 17 (.f 20 3 3),.y 17 (.L 21 2 20),.y 17 (.c 22 302 [19,21]),.a 23 17 22,.m 24 23,.y 24 (.f 25 2 5),.y 24 (.l 26 25),.y 24 (.f 27 3 5),.y 24 (.l 28 27),.y 24 (.b 29 .eql 26 28),.a 30 24 29,.m 31 30,.y 31 (.f 32 2 6),.y 31 (.l 33 32),.y 31 (.f 34 3 6),.y 31 (.l 35 34),.y 31 (.op 36 (.beq false (.t 33) (.t 35))),.a 37 31 36,.m 4 37]
 .ret)⟩
theorem r_l_sameRow {Te:TE} (c_l_sameCell:C_l_sameCell Te):C_l_sameRow (RF Te x_l_sameRow):=by
 intro a
 have eI:∀ z:Int,(z==z)=true:=fun z=>beq_self_eq_true z
 have eB:∀ z:Bool,(z==z)=true:=fun z=>beq_self_eq_true z
 have eL:∀ z:List UInt8,(z==z)=true:=fun z=>beq_self_eq_true z
 refine X1 x_l_sameRow.eq_1 eL ?_
 refine C0 (c_l_sameCell a.Old) ?_
 exact D2 (c_l_sameCell a.New) eI eB
def x_l_sameDev:FnX:=⟨94,[.tmp 4],
  .q [.v 2 0,.v 3 1,.F 4]
 (.seq (.q [.f 7 2 0,.l 8 7,.n 9 8,.f 10 3 0,.l 11 10,.n 12 11,.b 13 .neq 9 12,.m 14 13,.z 14 (.f 15 2 1),.z 14 (.l 16 15),.z 14 (.n 17 16),.z 14 (.f 18 3 1),.z 14 (.l 19 18),.z 14 (.n 20 19),.z 14 (.b 21 .neq 17 20),.r 22 14 21,.m 23 22,.z 23 (.f 24 2 2),.z 23 (.l 25 24),.z 23 (.f 26 3 2),.z 23 (.l 27 26),.z 23 (.b 28 .neq 25 27),.r 29 23 28,.m 30 29,.z 30 (.f 31 2 3),.z 30 (.l 32 31),.z 30 (.f 33 3 3),.z 30 (.l 34 33),.z 30 (.op 35 (.beq true (.t 32) (.t 34))),.r 36 30 35]
 (.c 36 (.q [.F 4]
 .ret)))
 (.seq (.q [.i 5 0]
 (.block 0 (.loop [2,3,5] (.seq (.q [.m 37 5,.f 38 2 0,.l 39 38,.n 40 39,.b 41 .lss 37 40]
 (.cond 41 .skip (.exit 0)))
 (.seq (.block 1 (.seq (.draw [.f 44 2 0,.l 45 44,.m 46 5,.x 47 1 45 46,.l 48 47,.op 49 (.conv .b2s (.t 48)),.f 50 3 0,.l 51 50,.m 52 5,.x 53 1 51 52,.l 54 53,.op 55 (.conv .b2s (.t 54)),.b 56 .neq 49 55] [[],[0],[],[1,2],[3],[4],[],[6],[],[7,8],[9],[10],[5,11]])
 (.c 56 (.q [.F 4]
 .ret))))
 (.reg [.m 42 5,.B 43 .add 42 1,.m 5 43]))))))
 (.norm [2,3] (.seq (.q [.i 6 0]
 (.block 2 (.loop [2,3,6] (.seq (.q [.m 57 6,.f 58 2 1,.l 59 58,.n 60 59,.b 61 .lss 57 60]
 (.cond 61 .skip (.exit 2)))
 (.seq (.block 3 (.seq (.draw [.f 64 2 1,.l 65 64,.m 66 6,.x 67 2 65 66,.f 68 67 0,.l 69 68,.f 70 3 1,.l 71 70,.m 72 6,.x 73 2 71 72,.f 74 73 0,.l 75 74,.b 76 .neq 69 75,.m 77 76,.z 77 (.f 78 2 1),.z 77 (.l 79 78),.z 77 (.m 80 6),.z 77 (.x 81 2 79 80),.z 77 (.f 82 81 1),.z 77 (.l 83 82),.z 77 (.op 84 (.conv .b2s (.t 83))),.z 77 (.f 85 3 1),.z 77 (.l 86 85),.z 77 (.m 87 6),.z 77 (.x 88 2 86 87),.z 77 (.f 89 88 1),.z 77 (.l 90 89),.z 77 (.op 91 (.conv .b2s (.t 90))),.z 77 (.b 92 .neq 84 91),.r 93 77 92] [[],[0],[],[1,2],[3],[4],[],[6],[],[7,8],[9],[10],[5,11],[12],[13],[14,13],[13],[15,16,13],[17,13],[18,13],[19,13],[13],[21,13],[13],[22,23,13],[24,13],[25,13],[26,13],[20,27,13],[13,28]])
 (.c 93 (.q [.F 4]
 .ret))))
 (.reg [.m 62 6,.B 63 .add 62 1,.m 6 63]))))))
 (.norm [] (.q [.T 4]
 .ret))))))⟩
theorem r_l_sameDev {Te:TE}:C_l_sameDev (RF Te x_l_sameDev):=by
 intro d h
 obtain ⟨⟨hS,_⟩,hC,_⟩:=h
 have nI:∀ z:Int,(z != z)=false:=fun z=>bne_self_eq_false z
 have nB:∀ z:Bool,(z != z)=false:=fun z=>bne_self_eq_false z
 have eL:∀ z:List UInt8,(z==z)=true:=fun z=>beq_self_eq_true z
 refine X2 x_l_sameDev.eq_1 nI nB ?_
 refine loop_of (σ:=Nat) (fun i=>⟨[(2,.bp 2 0),(3,.bp 3 0),(5,.one (.pv (.int .i64 i)))],[(2,[.ro 1 (d.Secs.map (fun y=>[slT false 1 uR y])),.ro 2 (d.Cache.map (WrV.enc false)),.pv (.int .i64 d.Fuse),.pv (.bool d.Down)]),(3,[.ro 1 (d.Secs.map (fun y=>[slT false 1 uR y])),.ro 2 (d.Cache.map (WrV.enc false)),.pv (.int .i64 d.Fuse),.pv (.bool d.Down)])],[(0,d.enc false),(1,d.enc false)]⟩) (fun i=>i≤d.Secs.length) (fun i=>d.Secs.length - i) 0 ?_ (Nat.zero_le _) ?_
 ·simp -implicitDefEqProofs (maxSteps:=1000000) only [go_sem]
  try rfl
 ·rintro i hi
  cases q:decide ((i:Int) < (d.Secs.length:Int))
  ·refine G1 q ?_
   refine loop_of (σ:=Nat) (fun i=>⟨[(2,.bp 2 0),(3,.bp 3 0),(6,.one (.pv (.int .i64 i)))],[(2,[.ro 1 (d.Secs.map (fun y=>[slT false 1 uR y])),.ro 2 (d.Cache.map (WrV.enc false)),.pv (.int .i64 d.Fuse),.pv (.bool d.Down)]),(3,[.ro 1 (d.Secs.map (fun y=>[slT false 1 uR y])),.ro 2 (d.Cache.map (WrV.enc false)),.pv (.int .i64 d.Fuse),.pv (.bool d.Down)])],[(0,d.enc false),(1,d.enc false)]⟩) (fun i=>i≤d.Cache.length) (fun i=>d.Cache.length - i) 0 ?_ (Nat.zero_le _) ?_
   ·simp -implicitDefEqProofs (maxSteps:=1000000) only [go_sem]
    try rfl
   ·rintro i hi
    cases q:decide ((i:Int) < (d.Cache.length:Int))
    ·exact F1 q
    ·have k1:i < d.Cache.length:=by simp only [decide_eq_true_eq] at q; omega
     have ea:=areBytes_uR d.Cache[i].B
     have fa:=bytesOf_uR d.Cache[i].B
     have k2:=List.getElem?_eq_getElem k1
     try simp -implicitDefEqProofs (maxSteps:=1000000) only [go_sem,q,k2,nI,ea,fa,eL]
     repeat refine ⟨sc,?_⟩
     try exact sf
     exact ⟨i + 1,by rw [IntWalk.i64_in _ (by omega)]; rfl,k1,by omega⟩
  ·have k1:i < d.Secs.length:=by simp only [decide_eq_true_eq] at q; omega
   have ea:=areBytes_uR d.Secs[i]
   have fa:=bytesOf_uR d.Secs[i]
   have k2:=List.getElem?_eq_getElem k1
   try simp -implicitDefEqProofs (maxSteps:=1000000) only [go_sem,q,k2,ea,fa,eL]
   repeat refine ⟨sc,?_⟩
   try exact sf
   exact ⟨i + 1,by rw [IntWalk.i64_in _ (by omega)]; rfl,k1,by omega⟩
def x_i_FillRow:FnX:=⟨31,[.cell 2 (some 7)],
  .q [.v 1 0,.op 2 (.alloc [.e,.i 0,.nils 1,.i 0,.nils 1,.i 0,.F])]
 (.q [.L 6 7 1,.c 7 252 [6],.op 3 (.alloc [.e,.i 0,.nils 1,.i 0,.nils 1,.i 0,.F]),.s 100001 7 3 7]
 (.seq (.q [.L 8 7 1,.c 9 253 [8],.N 10 9,.m 11 10,.z 11 (.f 12 1 5),.z 11 (.l 13 12),.z 11 (.B 14 .neq 13 1),.r 15 11 14]
 (.c 15 (.q [.L 16 7 3,.s 100002 7 2 16]
 .ret)))
 (.q [.f 18 1 1,.L 19 2 18,.op 20 (.call 254 [0,0] [(.t 19),(.i 0)]),.m 17 20,.e 21 17 0,.e 22 17 1,.op 4 (.alloc [.i 0,.nils 1]),.s 100003 2 4 21,.m 5 22]
 (.seq (.q [.m 23 5,.N 24 23]
 (.c 24 (.q [.f 25 3 6,⟨none,none,100004,.store 1 (.t 25) .T⟩]
 (.q [.L 26 7 3,.s 100005 7 2 26]
 .ret))))
 (.q [.L 27 2 4,.f 28 3 3,.s 100006 2 28 27,.f 29 3 5,⟨none,none,100007,.store 1 (.t 29) (.i 3)⟩]
 (.q [.L 30 7 3,.s 100008 7 2 30]
 .ret))))))⟩
theorem r_i_FillRow {Te:TE} (c_i_copyRow:C_i_copyRow Te) (c_i_RowOk:C_i_RowOk Te) (c_i_Turn:C_i_Turn Te):C_i_FillRow (RF Te x_i_FillRow):=by
 intro r h
 have hL:=h.len (by decide)
 refine X0 x_i_FillRow.eq_1 ?_
 refine C0 (c_i_copyRow r hL) ?_
 refine C0 (c_i_RowOk r (h.mono (by decide))) ?_
 cases g1:r.ok
 ·have e:=fill_no (r:=r) (by rw [g1]; rfl)
  exact F1 e
 cases g2:(r.Has==1)
 ·have e:=fill_no (r:=r) (by rw [g1,g2]; rfl)
  try simp -implicitDefEqProofs (maxSteps:=1000000) only [go_sem,bne_eq,g2,e,take_rows]
  repeat refine ⟨sc,?_⟩
  try exact sf
  try rfl
 have g3:(r.ok&&(r.Has==1))=true:=by rw [g1,g2]; rfl
 try simp -implicitDefEqProofs (maxSteps:=1000000) only [go_sem,bne_eq,g2,take_rows]
 repeat refine ⟨sc,?_⟩
 try exact sf
 refine C0 (c_i_Turn r.Old 0 hL.1 (Nat.le_trans text_size (by decide))) ?_
 cases g4:(r.Old.turn 0).2
 ·have e:=fill_bad g3 g4
  exact F2 g4 e
 ·have e:=fill_yes g3 g4
  exact F2 g4 e
def x_s_FillRow:FnX:=⟨30,[.cell 2 (some 7)],
  .q [.v 1 0,.op 2 (.alloc [.e,.i 0,.nils 1,.i 0,.nils 1,.i 0,.F])]
 (.q [.L 6 7 1,.c 7 288 [6],.op 3 (.alloc [.e,.i 0,.nils 1,.i 0,.nils 1,.i 0,.F]),.s 100001 7 3 7]
 (.seq (.q [.L 8 7 1,.c 9 289 [8],.N 10 9,.m 11 10,.z 11 (.L 12 7 1),.z 11 (.c 13 196 [12]),.r 14 11 13]
 (.c 14 (.q [.L 15 7 3,.s 100002 7 2 15]
 .ret)))
 (.q [.f 17 1 1,.L 18 2 17,.op 19 (.call 290 [0,0] [(.t 18),(.i 0)]),.m 16 19,.e 20 16 0,.e 21 16 1,.op 4 (.alloc [.i 0,.nils 1]),.s 100003 2 4 20,.m 5 21]
 (.seq (.q [.m 22 5,.N 23 22]
 (.c 23 (.q [.f 24 3 6,⟨none,none,100004,.store 1 (.t 24) .T⟩]
 (.q [.L 25 7 3,.s 100005 7 2 25]
 .ret))))
 (.q [.L 26 2 4,.f 27 3 3,.s 100006 2 27 26]
 (.q [.f 28 3 5,⟨none,none,100007,.store 1 (.t 28) (.i 3)⟩]
 (.q [.L 29 7 3,.s 100008 7 2 29]
 .ret)))))))⟩
theorem r_s_FillRow {Te:TE} (c_s_l9Copy:C_s_l9Copy Te) (c_s_RowOk:C_s_RowOk Te) (c_s_l9New:C_s_l9New Te) (c_s_Turn:C_s_Turn Te):C_s_FillRow (RF Te x_s_FillRow):=by
 intro r h
 have hL:=h.len (by decide)
 refine X0 x_s_FillRow.eq_1 ?_
 refine C0 (c_s_l9Copy r hL) ?_
 refine C0 (c_s_RowOk r (h.mono (by decide))) ?_
 cases g1:r.ok
 ·have e:=fill_no (r:=r) (by rw [g1]; rfl)
  exact F1 e
 refine G0 ?_
 refine C0 (c_s_l9New r (rowOk_13 g1)) ?_
 cases g2:(r.Has==1)
 ·have e:=fill_no (r:=r) (by rw [g1,g2]; rfl)
  have g5:decide (r.Has≠1)=true:=decide_eq_true (by simpa using g2)
  exact F2 g5 e
 have g3:(r.ok&&(r.Has==1))=true:=by rw [g1,g2]; rfl
 have g5:decide (r.Has≠1)=false:=decide_eq_false (by simpa using g2)
 refine G1 g5 ?_
 refine C0 (c_s_Turn r.Old 0 hL.1 (Nat.le_trans text_size (by decide))) ?_
 cases g4:(r.Old.turn 0).2
 ·have e:=fill_bad g3 g4
  exact F2 g4 e
 ·have e:=fill_yes g3 g4
  exact F2 g4 e
def x_i_CutRow:FnX:=⟨18,[.cell 2 (some 7)],
  .q [.v 1 0,.op 2 (.alloc [.e,.i 0,.nils 1,.i 0,.nils 1,.i 0,.F])]
 (.q [.L 4 7 1,.c 5 252 [4],.op 3 (.alloc [.e,.i 0,.nils 1,.i 0,.nils 1,.i 0,.F]),.s 100001 7 3 5]
 (.seq (.q [.L 6 7 1,.c 7 253 [6],.m 8 7,.y 8 (.f 9 1 5),.y 8 (.l 10 9),.y 8 (.B 11 .neq 10 1),.a 12 8 11]
 (.c 12 (.reg [.op 13 (.build [.i 0,.nils 1] []),.f 14 3 1,.s 100002 2 14 13,.f 15 3 5,⟨none,none,100003,.store 1 (.t 15) (.i 2)⟩,.f 16 3 6,⟨none,none,100004,.store 1 (.t 16) .F⟩])))
 (.q [.L 17 7 3,.s 100005 7 2 17]
 .ret)))⟩
theorem r_i_CutRow {Te:TE} (c_i_copyRow:C_i_copyRow Te) (c_i_RowOk:C_i_RowOk Te):C_i_CutRow (RF Te x_i_CutRow):=by
 intro r h
 have hL:=h.len (by decide)
 refine X0 x_i_CutRow.eq_1 ?_
 refine C0 (c_i_copyRow r hL) ?_
 refine C0 (c_i_RowOk r (h.mono (by decide))) ?_
 cases g1:r.ok
 ·have e:=cut_no (r:=r) (by rw [g1]; rfl)
  exact F1 e
 cases g2:(r.Has==1)
 ·have e:=cut_yes (r:=r) (by rw [g1,g2]; rfl)
  try simp -implicitDefEqProofs (maxSteps:=1000000) only [go_sem,bne_eq,g2,e,take_rows]
  repeat refine ⟨sc,?_⟩
  try exact sf
  try rfl
 ·have e:=cut_no (r:=r) (by rw [g1,g2]; rfl)
  try simp -implicitDefEqProofs (maxSteps:=1000000) only [go_sem,bne_eq,g2,e,take_rows]
  repeat refine ⟨sc,?_⟩
  try exact sf
  try rfl
def x_s_CutRow:FnX:=⟨20,[.cell 2 (some 7)],
  .q [.v 1 0,.op 2 (.alloc [.e,.i 0,.nils 1,.i 0,.nils 1,.i 0,.F])]
 (.q [.L 4 7 1,.c 5 288 [4],.op 3 (.alloc [.e,.i 0,.nils 1,.i 0,.nils 1,.i 0,.F]),.s 100001 7 3 5]
 (.seq (.q [.L 6 7 1,.c 7 289 [6],.N 8 7,.m 9 8,.z 9 (.L 10 7 1),.z 9 (.c 11 196 [10]),.z 9 (.N 12 11),.r 13 9 12]
 (.c 13 (.q [.L 14 7 3,.s 100002 7 2 14]
 .ret)))
 (.q [.f 15 1 0,.l 16 15,.f 17 3 3,.L 18 2 17,.op 19 (.build [.e,.i 0,.nils 1,.i 0,.nils 1,.i 0,.F] [(0,1,(.t 16)),(3,2,(.t 18)),(5,1,(.i 2))]),.s 100003 7 2 19]
 .ret)))⟩
theorem r_s_CutRow {Te:TE} (c_s_l9Copy:C_s_l9Copy Te) (c_s_RowOk:C_s_RowOk Te) (c_s_l9New:C_s_l9New Te):C_s_CutRow (RF Te x_s_CutRow):=by
 intro r h
 have hL:=h.len (by decide)
 refine X0 x_s_CutRow.eq_1 ?_
 refine C0 (c_s_l9Copy r hL) ?_
 refine C0 (c_s_RowOk r (h.mono (by decide))) ?_
 cases g1:r.ok
 ·have e:=cut_no (r:=r) (by rw [g1]; rfl)
  exact F1 e
 refine G0 ?_
 refine C0 (c_s_l9New r (rowOk_13 g1)) ?_
 cases g2:(r.Has==1)
 ·have e:=cut_yes (r:=r) (by rw [g1,g2]; rfl)
  have g5:decide (r.Has≠1)=true:=decide_eq_true (by simpa using g2)
  exact F2 g5 e
 ·have e:=cut_no (r:=r) (by rw [g1,g2]; rfl)
  have g5:decide (r.Has≠1)=false:=decide_eq_false (by simpa using g2)
  exact F2 g5 e
def x_i_BackRow:FnX:=⟨24,[.cell 2 (some 7)],
  .q [.v 1 0,.op 2 (.alloc [.e,.i 0,.nils 1,.i 0,.nils 1,.i 0,.F])]
 (.q [.L 4 7 1,.c 5 252 [4],.op 3 (.alloc [.e,.i 0,.nils 1,.i 0,.nils 1,.i 0,.F]),.s 100001 7 3 5]
 (.seq (.block 0 (.q [.L 7 7 1,.c 8 253 [7],.N 9 8,.m 6 9]
 (.cond 6 .skip (.q [.f 11 1 5,.l 12 11,.B 13 .eql 12 3,.m 10 13]
 (.cond 10 (.reg [.op 14 (.build [.i 0,.nils 1] []),.f 15 3 3,.s 100002 2 15 14,.f 16 3 5,⟨none,none,100003,.store 1 (.t 16) (.i 1)⟩,.f 17 3 6,⟨none,none,100004,.store 1 (.t 17) .F⟩]) (.q [.f 19 1 5,.l 20 19,.B 21 .eql 20 2,.m 18 21]
 (.c 18 (.reg [.f 22 3 6,⟨none,none,100005,.store 1 (.t 22) .T⟩]))))))))
 (.q [.L 23 7 3,.s 100006 7 2 23]
 .ret)))⟩
theorem r_i_BackRow {Te:TE} (c_i_copyRow:C_i_copyRow Te) (c_i_RowOk:C_i_RowOk Te):C_i_BackRow (RF Te x_i_BackRow):=by
 intro r h
 have hL:=h.len (by decide)
 refine X0 x_i_BackRow.eq_1 ?_
 refine C0 (c_i_copyRow r hL) ?_
 refine C0 (c_i_RowOk r (h.mono (by decide))) ?_
 cases g1:r.ok
 ·have e:r.back=r:=by rw [RowV.back,g1]; rfl
  exact F1 e
 cases g3:(r.Has==3)
 ·cases g2:(r.Has==2)
  ·have e:r.back=r:=by rw [RowV.back,g1,g3,g2]; rfl
   exact F3 g3 g2 e
  ·have e:r.back=⟨r.Key,r.Old,r.New,r.Has,true⟩:=by rw [RowV.back,g1,g3,g2]; rfl
   exact F3 g3 g2 e
 ·have e:r.back=⟨r.Key,r.Old,⟨0,[]⟩,1,false⟩:=by rw [RowV.back,g1,g3]; rfl
  exact F2 g3 e
def x_i_isSet:FnX:=⟨5,[.tmp 2],
  .q [.F 2]
 (.q [.m 3 0,.op 4 (.call 90 [0,0,0] [(.t 3),(.i 0),(.i 5)]),.m 2 4]
 .ret)⟩
theorem r_i_isSet {Te:TE} (c_i_within:C_i_within Te):C_i_isSet (RF Te x_i_isSet):=by
 intro cs
 refine X0 x_i_isSet.eq_1 ?_
 exact D0 (c_i_within _ _ _)
def x_s_l5Cs:FnX:=⟨5,[.tmp 2],
  .q [.F 2]
 (.q [.m 3 0,.op 4 (.call 120 [0,0,0] [(.t 3),(.i 0),(.i 5)]),.m 2 4]
 .ret)⟩
theorem r_s_l5Cs {Te:TE} (c_s_l1In:C_s_l1In Te):C_s_l5Cs (RF Te x_s_l5Cs):=by
 intro cs
 refine X0 x_s_l5Cs.eq_1 ?_
 exact D0 (c_s_l1In _ _ _)
def x_i_signIn:FnX:=⟨42,[.tmp 6,.tmp 7,.tmp 8],
  .q [.i 6 0,.i 7 0,.F 8]
 (.seq (.q [.m 11 0]
 (.block 0 (.q [.B 13 .eql 11 0,.m 12 13]
 (.cond 12 (.q [.m 14 1,.m 15 2,.c 16 267 [14,15],.e 17 16 0,.e 18 16 1,.e 19 16 2,.m 6 17,.m 7 18,.m 8 19]
 .ret) (.q [.B 21 .eql 11 5,.m 20 21]
 (.c 20 (.q [.m 22 1,.m 23 2,.c 24 268 [22,23],.e 25 24 0,.e 26 24 1,.e 27 24 2,.m 6 25,.m 7 26,.m 8 27]
 .ret)))))))
 (.q [.m 29 0,.m 30 1,.m 31 2,.x 32 1 30 31,.l 33 32,.op 34 (.conv (.int .i64) (.t 33)),.c 35 269 [29,34],.m 28 35,.e 36 28 0,.e 37 28 1,.m 9 36,.m 10 37]
 (.q [.m 38 9,.m 39 2,.B 40 .add 39 1,.m 41 10,.m 6 38,.m 7 40,.m 8 41]
 .ret)))⟩
theorem r_i_signIn {Te:TE} (c_i_GetSign:C_i_GetSign Te) (c_i_EucSign:C_i_EucSign Te) (c_i_ByteSign:C_i_ByteSign Te):C_i_signIn (RF Te x_i_signIn):=by
 intro cs b i hb hi
 refine run0 ?_
 cases g0:(cs==0)
 ·have n0:¬ cs=0:=by simpa using g0
  cases g5:(cs==5)
  ·have n5:¬ cs=5:=by simpa using g5
   have e:signIn cs b i=((byteSign cs (byteN b i.toNat:Nat)).1,i + 1,(byteSign cs (byteN b i.toNat:Nat)).2):=by rw [signIn,if_neg n0,if_neg n5]
   have hk:i.toNat < b.length:=by omega
   have eb:b[i.toNat].toNat=byteN b i.toNat:=by
    simp only [byteN,List.getD_eq_getElem?_getD]
    rw [List.getElem?_eq_getElem hk]
    rfl
   have hlt:=byteN_lt b i.toNat
   have w1:IntKind.i64.wrap ((byteN b i.toNat:Nat):Int)=(byteN b i.toNat:Nat):=IntWalk.i64_in _ (by omega)
   have w2:IntKind.i64.wrap (i + 1)=i + 1:=IntWalk.i64_in _ (by omega)
   simp -implicitDefEqProofs (maxSteps:=1000000) only [x_i_signIn,go_sem,g0,g5,List.getElem?_eq_getElem hk,eb,w1]
   repeat refine ⟨sc,?_⟩
   try exact sf
   exact D2 (c_i_ByteSign _ _) w2 e
  ·have n5:cs=5:=eq_of_beq g5
   subst n5
   have e:signIn 5 b i=eucSign b i:=rfl
   simp -implicitDefEqProofs (maxSteps:=1000000) only [x_i_signIn,go_sem]
   repeat refine ⟨sc,?_⟩
   try exact sf
   exact D1 (c_i_EucSign b i hb) e
 ·have n0:cs=0:=eq_of_beq g0
  subst n0
  have e:signIn 0 b i=getSign b i:=rfl
  simp -implicitDefEqProofs (maxSteps:=1000000) only [x_i_signIn,go_sem]
  repeat refine ⟨sc,?_⟩
  try exact sf
  exact D1 (c_i_GetSign b i (by omega)) e
def x_s_l5Get:FnX:=⟨42,[.tmp 6,.tmp 7,.tmp 8],
  .q [.i 6 0,.i 7 0,.F 8]
 (.seq (.q [.m 11 0]
 (.block 0 (.q [.B 13 .eql 11 0,.m 12 13]
 (.cond 12 (.q [.m 14 1,.m 15 2,.c 16 272 [14,15],.e 17 16 0,.e 18 16 1,.e 19 16 2,.m 6 17,.m 7 18,.m 8 19]
 .ret) (.q [.B 21 .eql 11 5,.m 20 21]
 (.c 20 (.q [.m 22 1,.m 23 2,.c 24 273 [22,23],.e 25 24 0,.e 26 24 1,.e 27 24 2,.m 6 25,.m 7 26,.m 8 27]
 .ret)))))))
 (.q [.m 29 0,.m 30 1,.m 31 2,.x 32 1 30 31,.l 33 32,.op 34 (.conv (.int .i64) (.t 33)),.c 35 274 [29,34],.m 28 35,.e 36 28 0,.e 37 28 1,.m 9 36,.m 10 37]
 (.q [.m 38 9,.m 39 2,.B 40 .add 39 1,.m 41 10,.m 6 38,.m 7 40,.m 8 41]
 .ret)))⟩
theorem r_s_l5Get {Te:TE} (c_s_GetSign:C_s_GetSign Te) (c_s_EucSign:C_s_EucSign Te) (c_s_ByteSign:C_s_ByteSign Te):C_s_l5Get (RF Te x_s_l5Get):=by
 intro cs b i hb hi
 refine run0 ?_
 cases g0:(cs==0)
 ·have n0:¬ cs=0:=by simpa using g0
  cases g5:(cs==5)
  ·have n5:¬ cs=5:=by simpa using g5
   have e:signIn cs b i=((byteSign cs (byteN b i.toNat:Nat)).1,i + 1,(byteSign cs (byteN b i.toNat:Nat)).2):=by rw [signIn,if_neg n0,if_neg n5]
   have hk:i.toNat < b.length:=by omega
   have eb:b[i.toNat].toNat=byteN b i.toNat:=by
    simp only [byteN,List.getD_eq_getElem?_getD]
    rw [List.getElem?_eq_getElem hk]
    rfl
   have hlt:=byteN_lt b i.toNat
   have w1:IntKind.i64.wrap ((byteN b i.toNat:Nat):Int)=(byteN b i.toNat:Nat):=IntWalk.i64_in _ (by omega)
   have w2:IntKind.i64.wrap (i + 1)=i + 1:=IntWalk.i64_in _ (by omega)
   simp -implicitDefEqProofs (maxSteps:=1000000) only [x_s_l5Get,go_sem,g0,g5,List.getElem?_eq_getElem hk,eb,w1]
   repeat refine ⟨sc,?_⟩
   try exact sf
   exact D2 (c_s_ByteSign _ _) w2 e
  ·have n5:cs=5:=eq_of_beq g5
   subst n5
   have e:signIn 5 b i=eucSign b i:=rfl
   simp -implicitDefEqProofs (maxSteps:=1000000) only [x_s_l5Get,go_sem]
   repeat refine ⟨sc,?_⟩
   try exact sf
   exact D1 (c_s_EucSign b i hb) e
 ·have n0:cs=0:=eq_of_beq g0
  subst n0
  have e:signIn 0 b i=getSign b i:=rfl
  simp -implicitDefEqProofs (maxSteps:=1000000) only [x_s_l5Get,go_sem]
  repeat refine ⟨sc,?_⟩
  try exact sf
  exact D1 (c_s_GetSign b i (by omega)) e
def x_i_Decode:FnX:=⟨35,[.tmp 4,.tmp 5],
  .q [.op 4 (.mv (.k (.one (.pv (.string ⟨#[]⟩))))),.F 5]
 (.seq (.q [.m 11 0,.c 12 184 [11],.N 13 12]
 (.c 13 (.q [.op 4 (.mv (.k (.one (.pv (.string ⟨#[]⟩))))),.F 5]
 .ret)))
 (.q [.op 14 (.bslice 1 []),.m 6 14]
 (.seq (.q [.i 7 0]
 (.block 0 (.loop [0,1,6,7] (.seq (.q [.m 15 7,.m 16 1,.n 17 16,.b 18 .lss 15 17]
 (.cond 18 .skip (.exit 0)))
 (.block 1 (.q [.m 20 0,.m 21 1,.m 22 7,.c 23 185 [20,21,22],.m 19 23,.e 24 19 0,.e 25 19 1,.e 26 19 2,.m 8 24,.m 9 25,.m 10 26]
 (.seq (.q [.m 27 10,.N 28 27]
 (.c 28 (.q [.op 4 (.mv (.k (.one (.pv (.string ⟨#[]⟩))))),.F 5]
 .ret)))
 (.q [.m 29 6,.m 30 8,.c 31 186 [29,30],.m 6 31]
 (.reg [.m 32 9,.m 7 32])))))))))
 (.norm [6] (.q [.m 33 6,.op 34 (.conv .b2s (.t 33)),.m 4 34,.T 5]
 .ret)))))⟩
theorem r_i_Decode {Te:TE} (c_i_isSet:C_i_isSet Te) (c_i_signIn:C_i_signIn Te) (c_i_PutSign:C_i_PutSign Te):C_i_Decode (RF Te x_i_Decode):=by
 intro cs b hb
 cases g:win cs 0 5
 ·have e:decode cs b=(⟨#[]⟩,false):=by rw [decode,g]; rfl
  refine X0 x_i_Decode.eq_1 ?_
  exact D2 (c_i_isSet _) g e
 ·have e:decode cs b=decGo cs b b.length 0 []:=by rw [decode,g]; rfl
  rw [e]
  generalize hD:decGo cs b b.length 0 []=D
  refine X0 x_i_Decode.eq_1 ?_
  refine C1 (c_i_isSet _) g ?_
  refine loop_of (σ:=Nat×Nat×List UInt8) (fun x=>⟨[(0,.one (.pv (.int .i64 cs))),(1,.one (.ro 1 (b.map uR))),(6,.one (.rf 37 0 [] 1 0 x.2.2.length)),(7,.one (.pv (.int .i64 x.2.1)))],[],[(0,[iT cs]),(1,[slT false 1 uR b]),(37,[slT true 1 uR x.2.2])]⟩) (fun x=>x.2.1≤b.length∧b.length≤x.1 + x.2.1∧x.2.2.length≤4 * x.2.1∧decGo cs b x.1 x.2.1 x.2.2=D) (fun x=>b.length - x.2.1) (b.length,0,[]) ?_ ⟨Nat.zero_le _,Nat.le_refl _,Nat.zero_le _,hD⟩ ?_
  ·simp -implicitDefEqProofs (maxSteps:=1000000) only [go_sem]
   try rfl
  ·rintro ⟨fu,i,out⟩ ⟨hi,hf,ho,hd⟩
   simp only at hi hf ho hd
   cases q:decide ((i:Int) < (b.length:Int))
   ·have hq:¬ (i:Int) < (b.length:Int):=by simpa using q
    rw [dec_end hq] at hd
    subst hd
    refine G1 q ?_
    refine ⟨areBytes_uR out,?_⟩
    rw [bytesOf_uD]
    try rfl
   ·have hq:(i:Int) < (b.length:Int):=by simpa using q
    obtain ⟨f,rfl⟩:∃ f,fu=f + 1:=⟨fu - 1,by omega⟩
    have hs:=c_i_signIn cs b i (by omega) ⟨by omega,hq⟩
    cases g2:(signIn cs b i).2.2
    ·rw [dec_bad hq g2] at hd
     subst hd
     refine G1 q ?_
     exact D1 (hs) g2
    ·rw [dec_step hq g2] at hd
     have hn:=signIn_next ⟨by omega,hq⟩ g2
     generalize signIn cs b i=r at hs g2 hd hn
     obtain ⟨n,nx,ok⟩:=r
     simp only at hs g2 hd hn
     subst g2
     obtain ⟨j,rfl⟩:∃ j:Nat,nx=j:=⟨nx.toNat,by omega⟩
     have hl:=putSign_len out n
     refine G1 q ?_
     refine C0 (hs) ?_
     refine C0 (c_i_PutSign out n (by omega)) ?_
     exact ⟨(f,j,putSign out n),rfl,⟨by simp only; omega,by simp only; omega,by simp only; omega,hd⟩,by simp only; omega⟩
def x_u_AppendRune:FnX:=⟨16,[.tmp 4],
  .q [.op 4 (.mv (.k (.one (.nils 1))))]
 (.seq (.q [.m 5 1,.op 6 (.conv (.int .u32) (.t 5)),.op 7 (.bin .leq (.t 6) (.k (.one (.pv (.int .u32 127)))))]
 (.c 7 (.q [.m 8 0,.m 9 1,.op 10 (.conv (.int .u8) (.t 9)),.op 11 (.bslice 1 [(.t 10)]),.op 12 (.app 1 1 (.t 8) (.t 11)),.m 4 12]
 .ret)))
 (.q [.m 13 0,.m 14 1,.op 15 (.call 328 [1,0] [(.t 13),(.t 14)]),.m 4 15]
 .ret))⟩
theorem r_u_AppendRune {Te:TE} (c_u_appendRuneNonASCII:C_u_appendRuneNonASCII Te):C_u_AppendRune (RF Te x_u_AppendRune):=by
 intro b m hb hm
 refine run0 ?_
 have w32:IntKind.u32.wrap (m:Int)=(m:Int):=by rw [IntKind.wrap_u32]; omega
 cases q:decide ((m:Int)≤127)
 ·have hq:¬ m≤127:=by simp only [decide_eq_false_iff_not] at q; omega
  simp -implicitDefEqProofs (maxSteps:=1000000) only [x_u_AppendRune,go_sem,w32,q]
  repeat refine ⟨sc,?_⟩
  try exact sf
  refine .of (c_u_appendRuneNonASCII b m hb ⟨by omega,hm⟩) ?_
  try simp -implicitDefEqProofs (maxSteps:=1000000) only [go_sem,List.length_append]
  repeat refine ⟨sc,?_⟩
  try exact sf
  rw [← List.length_append,take_map]
 ·have hq:m≤127:=by simp only [decide_eq_true_eq] at q; omega
  have ee:List.take (b.length + 1) (List.map uR b++[[uT (mkU (m:Int))]])=List.map uR (b++enc8 m):=by
   rw [List.take_of_length_le (by simp),mkU_nat]
   simp only [enc8,if_pos hq,List.map_append,List.map_cons,List.map_nil]
  simp -implicitDefEqProofs (maxSteps:=1000000) only [x_u_AppendRune,go_sem,w32,q,mkU_wrap,ee]
  repeat refine ⟨sc,?_⟩
  try exact sf
def x_i_PutSign:FnX:=⟨17,[.tmp 4],
  .q [.op 4 (.mv (.k (.one (.nils 1))))]
 (.q [.m 6 0,.op 7 (.bslice 1 [(.t 6)]),.c 8 100 [7],.m 5 8]
 (.seq (.q [.m 9 1,.c 10 270 [9],.N 11 10]
 (.c 11 (.q [.m 12 5,.m 4 12]
 .ret)))
 (.q [.m 13 5,.m 14 1,.op 15 (.conv (.int .i32) (.t 14)),.op 16 (.call 271 [1,0] [(.t 13),(.t 15)]),.m 4 16]
 .ret)))⟩
theorem r_i_PutSign {Te:TE} (c_i_joined:C_i_joined Te) (c_i_SignOk:C_i_SignOk Te) (c_u_AppendRune:C_u_AppendRune Te):C_i_PutSign (RF Te x_i_PutSign):=by
 intro b n hb
 refine X0 x_i_PutSign.eq_1 ?_
 refine .of (c_i_joined [b] (by rw [flat1]; omega) (by show 1≤2 ^ 31; decide)) ?_
 try simp -implicitDefEqProofs (maxSteps:=1000000) only [go_sem,flat1]
 repeat refine ⟨sc,?_⟩
 try exact sf
 refine C0 (c_i_SignOk _) ?_
 cases hn:signOk n
 ·try simp -implicitDefEqProofs (maxSteps:=1000000) only [go_sem,putSign,hn,if_false,take_map]
  repeat refine ⟨sc,?_⟩
  try exact sf
  try rfl
 ·obtain ⟨h0,h1,h2⟩:=signOk_in hn
  obtain ⟨m,rfl⟩:∃ m:Nat,n=m:=⟨n.toNat,by omega⟩
  have ep:putSign b (m:Int)=b++enc8 m:=by simp only [putSign,hn,if_true,Int.toNat_natCast]
  have w:IntKind.i32.wrap (m:Int)=(m:Int):=by rw [IntWalk.i32_in _ (by omega)]
  try simp -implicitDefEqProofs (maxSteps:=1000000) only [go_sem,w,take_map]
  repeat refine ⟨sc,?_⟩
  try exact sf
  refine .of (c_u_AppendRune b m hb ⟨by omega,by omega⟩) ?_
  try simp -implicitDefEqProofs (maxSteps:=1000000) only [go_sem,List.length_append]
  repeat refine ⟨sc,?_⟩
  try exact sf
  rw [ep]
  try rw [← List.length_append,take_map]
  try rfl
def x_s_BackRow:FnX:=⟨24,[.cell 2 (some 7)],
  .q [.v 1 0,.op 2 (.alloc [.e,.i 0,.nils 1,.i 0,.nils 1,.i 0,.F])]
 (.q [.L 4 7 1,.c 5 288 [4],.op 3 (.alloc [.e,.i 0,.nils 1,.i 0,.nils 1,.i 0,.F]),.s 100001 7 3 5]
 (.seq (.q [.L 6 7 1,.c 7 289 [6],.N 8 7,.m 9 8,.z 9 (.L 10 7 1),.z 9 (.c 11 196 [10]),.z 9 (.N 12 11),.r 13 9 12]
 (.c 13 (.q [.L 14 7 3,.s 100002 7 2 14]
 .ret)))
 (.seq (.q [.L 15 7 1,.c 16 291 [15]]
 (.c 16 (.q [.f 17 1 0,.l 18 17,.f 19 3 1,.L 20 2 19,.op 21 (.build [.e,.i 0,.nils 1,.i 0,.nils 1,.i 0,.F] [(0,1,(.t 18)),(1,2,(.t 20)),(5,1,(.i 1))]),.s 100003 7 2 21]
 .ret)))
 (.q [.f 22 3 6,⟨none,none,100004,.store 1 (.t 22) .T⟩]
 (.q [.L 23 7 3,.s 100005 7 2 23]
 .ret)))))⟩
theorem r_s_BackRow {Te:TE} (c_s_l9Copy:C_s_l9Copy Te) (c_s_RowOk:C_s_RowOk Te) (c_s_l9New:C_s_l9New Te) (c_s_l9Old:C_s_l9Old Te):C_s_BackRow (RF Te x_s_BackRow):=by
 intro r h
 have hL:=h.len (by decide)
 refine X0 x_s_BackRow.eq_1 ?_
 refine C0 (c_s_l9Copy r hL) ?_
 refine C0 (c_s_RowOk r (h.mono (by decide))) ?_
 cases g1:r.ok
 ·have e:r.back=r:=by rw [RowV.back,g1]; rfl
  exact F1 e
 have h13:=rowOk_13 g1
 refine G0 ?_
 refine C0 (c_s_l9New r h13) ?_
 by_cases g2:r.Has=1
 ·have e:r.back=r:=by rw [RowV.back,g1,g2]; rfl
  have g5:decide (r.Has≠1)=false:=decide_eq_false (by simpa using g2)
  exact F2 g5 e
 have g5:decide (r.Has≠1)=true:=decide_eq_true g2
 refine G1 g5 ?_
 refine C0 (c_s_l9Old r h13) ?_
 by_cases g3:r.Has=2
 ·have e:r.back=⟨r.Key,r.Old,r.New,r.Has,true⟩:=by rw [RowV.back,g1,g3]; rfl
  have g6:decide (r.Has≠2)=false:=decide_eq_false (by simpa using g3)
  exact F2 g6 e
 ·have g4:r.Has=3:=by omega
  have e:r.back=⟨r.Key,r.Old,⟨0,[]⟩,1,false⟩:=by rw [RowV.back,g1,g4]; rfl
  have g6:decide (r.Has≠2)=true:=decide_eq_true g3
  exact F2 g6 e
def x_i_turnedRow:FnX:=⟨16,[.cell 4 (some 7)],
  .q [.v 3 1,.op 4 (.alloc [.e,.i 0,.nils 1,.i 0,.nils 1,.i 0,.F])]
 (.seq (.q [.m 5 0]
 (.block 0 (.q [.B 7 .eql 5 4,.m 6 7]
 (.cond 6 (.q [.L 8 7 3,.c 9 170 [8],.s 100001 7 4 9]
 .ret) (.q [.B 11 .eql 5 6,.m 10 11]
 (.c 10 (.q [.L 12 7 3,.c 13 171 [12],.s 100002 7 4 13]
 .ret)))))))
 (.q [.L 14 7 3,.c 15 172 [14],.s 100003 7 4 15]
 .ret))⟩
theorem r_i_turnedRow {Te:TE} (c_i_CutRow:C_i_CutRow Te) (c_i_BackRow:C_i_BackRow Te) (c_i_FillRow:C_i_FillRow Te):C_i_turnedRow (RF Te x_i_turnedRow):=by
 intro p r h
 refine run0 ?_
 simp -implicitDefEqProofs (maxSteps:=1000000) only [x_i_turnedRow,go_sem,turned]
 repeat refine ⟨sc,?_⟩
 try exact sf
 cases g4:(p==4)
 ·cases g6:(p==6)
  ·refine G2 g4 g6 ?_
   exact D0 (c_i_FillRow r h)
  ·refine G2 g4 g6 ?_
   exact D0 (c_i_BackRow r h)
 ·refine G1 g4 ?_
  exact D0 (c_i_CutRow r h)
def x_s_l15Turn:FnX:=⟨17,[.cell 4 (some 7)],
  .q [.v 3 1,.op 4 (.alloc [.e,.i 0,.nils 1,.i 0,.nils 1,.i 0,.F])]
 (.seq (.q [.m 5 0]
 (.block 0 (.seq (.q [.B 7 .eql 5 2,.m 6 7]
 (.cond 6 .skip (.reg [.B 8 .eql 5 3,.m 6 8])))
 (.cond 6 (.q [.L 9 7 3,.c 10 201 [9],.s 100001 7 4 10]
 .ret) (.q [.B 12 .eql 5 4,.m 11 12]
 (.c 11 (.q [.L 13 7 3,.c 14 202 [13],.s 100002 7 4 14]
 .ret)))))))
 (.q [.L 15 7 3,.c 16 203 [15],.s 100003 7 4 16]
 .ret))⟩
theorem r_s_l15Turn {Te:TE} (c_s_FillRow:C_s_FillRow Te) (c_s_CutRow:C_s_CutRow Te) (c_s_BackRow:C_s_BackRow Te):C_s_l15Turn (RF Te x_s_l15Turn):=by
 intro p r h hp
 refine run0 ?_
 rcases hp with rfl | rfl | rfl | rfl
 all_goals
  simp -implicitDefEqProofs (maxSteps:=1000000) only [x_s_l15Turn,go_sem,turned]
  repeat refine ⟨sc,?_⟩
  try exact sf
 ·exact D0 (c_s_FillRow r h)
 ·exact D0 (c_s_FillRow r h)
 ·exact D0 (c_s_CutRow r h)
 ·exact D0 (c_s_BackRow r h)
def x_s_NodePhase:FnX:=⟨30,[.cell 4 (some 10),.tmp 5],
  .q [.v 2 0,.op 4 (.alloc [.nils 1,.nils 2,.i 0,.F,.nils 7,.i 0,.nils 3,.i 0,.i 0,.i 0]),.F 5]
 (.q [.L 7 10 2,.c 8 65 [7],.op 6 (.alloc [.nils 1,.nils 2,.i 0,.F,.nils 7,.i 0,.nils 3,.i 0,.i 0,.i 0]),.s 100001 10 6 8]
 (.seq (.q [.L 9 10 2,.c 10 64 [9],.N 11 10]
 (.c 11 (.q [.L 12 10 6,.s 100002 10 4 12,.F 5]
 .ret)))
 (.seq (.q [.f 13 2 0,.f 14 13 4,.f 15 14 1,.l 16 15,.m 17 1,.c 18 113 [16,17]]
 (.c 18 (.reg [.f 19 6 0,.m 20 1,.op 21 (.build [.i 0,.e,.i 0,.nils 1,.i 0,.nils 1,.i 0,.F,.e,.i 0,.i 0,.i 0,.i 0] [(0,1,(.i 3)),(9,1,(.t 20))]),.op 22 (.call 103 [11,0] [(.t 19),(.t 21)])])))
 (.seq (.draw [.L 23 10 6,.f 24 6 0,.f 25 24 4,.f 26 25 1,.l 27 26,.m 28 1,.b 29 .eql 27 28,.s 100003 10 4 23,.m 5 29] [[],[],[1],[2],[3],[],[4,5],[0,0],[6,7,0,1,2,3,4,5,6,7]])
 .ret))))⟩
theorem r_s_NodePhase {Te:TE} (c_s_l15Copy:C_s_l15Copy Te) (c_s_l15Up:C_s_l15Up Te) (c_s_NextOk:C_s_NextOk Te) (c_s_l13Add:C_s_l13Add Te):C_s_NodePhase (RF Te x_s_NodePhase):=by
 intro n p hn
 have hL:=hn.len (by decide)
 refine X0 x_s_NodePhase.eq_1 ?_
 refine C0 (c_s_l15Copy n hL) ?_
 refine C0 (c_s_l15Up n (hn.mono (by decide))) ?_
 cases g1:n.up
 ·have e:n.phase p=(n,false):=by rw [NodeV.phase,g1]; rfl
  exact F1 e
 obtain ⟨k1,k2,_⟩:=up_ok g1
 have e:n.phase p=(n.phase1 p,(n.phase1 p).S.T.Phase==p):=by rw [NodeV.phase,g1]; rfl
 refine G0 ?_
 refine C0 (c_s_NextOk _ _) ?_
 cases g2:nextOk n.S.T.Phase p
 ·have e1:n.phase1 p=n:=by rw [NodeV.phase1,g2]; rfl
  exact F2 e e1
 ·have e1:n.phase1 p=n.added (recPh p):=by rw [NodeV.phase1,g2]; rfl
  refine G0 ?_
  refine .of (c_s_l13Add n.S (recPh p) k1 k2 hn.2 (recPh_in p _)) ?_
  try simp -implicitDefEqProofs (maxSteps:=1000000) only [go_sem,e,e1,NodeV.added,NodeV.enc,take_all,take_marks]
  repeat refine ⟨sc,?_⟩
  try exact sf
  try rfl
def x_s_NodeLoad:FnX:=⟨60,[.cell 6 (some 10),.tmp 7],
  .q [.v 3 0,.op 6 (.alloc [.nils 1,.nils 2,.i 0,.F,.nils 7,.i 0,.nils 3,.i 0,.i 0,.i 0]),.i 7 0]
 (.q [.L 12 10 3,.c 13 65 [12],.op 8 (.alloc [.nils 1,.nils 2,.i 0,.F,.nils 7,.i 0,.nils 3,.i 0,.i 0,.i 0]),.s 100001 10 8 13]
 (.seq (.block 0 (.q [.L 15 10 3,.c 16 64 [15],.N 17 16,.m 18 17,.z 18 (.m 19 1),.z 18 (.c 20 101 [19]),.z 18 (.N 21 20),.r 22 18 21,.m 23 22,.z 23 (.m 24 2),.z 23 (.n 25 24),.z 23 (.B 26 .gtr 25 20),.r 27 23 26,.m 14 27]
 (.cond 14 (.q [.L 28 10 8,.s 100002 10 6 28,.i 7 1]
 .ret) (.q [.f 30 3 0,.f 31 30 4,.f 32 31 1,.l 33 32,.B 34 .neq 33 0,.m 29 34]
 (.c 29 (.q [.L 35 10 8,.s 100003 10 6 35,.i 7 6]
 .ret))))))
 (.q [.f 37 3 9,.l 38 37,.m 39 2,.c 40 102 [38,39],.m 36 40,.e 41 36 0,.e 42 36 1,.m 9 41,.m 10 42]
 (.seq (.draw [.m 43 1,.f 44 3 9,.l 45 44,.op 46 (.bslice 1 []),.m 47 2,.op 48 (.app 1 1 (.t 46) (.t 47)),.op 49 (.build [.i 0,.nils 1] [(0,1,(.t 45)),(1,1,(.t 48))]),.m 50 10,.N 51 50,.op 52 (.build [.e,.i 0,.nils 1,.i 0,.nils 1,.i 0,.F] [(0,1,(.t 43)),(1,2,(.t 49)),(5,1,(.i 1)),(6,1,(.t 51))]),.op 11 (.alloc [.e,.i 0,.nils 1,.i 0,.nils 1,.i 0,.F]),.s 100004 7 11 52] [[],[],[1],[],[],[3,4],[2,5],[],[7],[0,6,8],[],[10,9,5,0,1,2,3,4,5,6,7,8,9,10]])
 (.seq (.q [.f 53 8 0,.L 54 7 11,.op 55 (.build [.i 0,.e,.i 0,.nils 1,.i 0,.nils 1,.i 0,.F,.e,.i 0,.i 0,.i 0,.i 0] [(0,1,(.i 1)),(1,7,(.t 54))]),.op 56 (.call 103 [11,0] [(.t 53),(.t 55)]),.N 57 56]
 (.c 57 (.q [.L 58 10 8,.s 100005 10 6 58,.i 7 5]
 .ret)))
 (.q [.L 59 10 8,.s 100006 10 6 59,.i 7 0]
 .ret))))))⟩
theorem r_s_NodeLoad {Te:TE} (c_s_l15Copy:C_s_l15Copy Te) (c_s_l15Up:C_s_l15Up Te) (c_s_NameOk:C_s_NameOk Te) (c_s_Decode:C_s_Decode Te) (c_s_l13Add:C_s_l13Add Te):C_s_NodeLoad (RF Te x_s_NodeLoad):=by
 intro n key b hn hk hb
 have hL:=hn.len (by decide)
 refine X0 x_s_NodeLoad.eq_1 ?_
 refine C0 (c_s_l15Copy n hL) ?_
 refine C0 (c_s_l15Up n (hn.mono (by decide))) ?_
 cases g1:n.up
 ·have e:n.load key b=(n,1):=by rw [NodeV.load,g1]; rfl
  exact F1 e
 obtain ⟨k1,k2,_⟩:=up_ok g1
 refine G0 ?_
 refine C0 (c_s_NameOk key (by omega)) ?_
 cases g2:nameOk key
 ·have e:n.load key b=(n,1):=by rw [NodeV.load,g1,g2]; rfl
  exact F1 e
 cases g3:decide ((b.length:Int)≤20)
 ·have e:n.load key b=(n,1):=by rw [NodeV.load,g1,g2,g3]; rfl
  try simp -implicitDefEqProofs (maxSteps:=1000000) only [go_sem,gt20,g3,e,take_all,take_marks]
  repeat refine ⟨sc,?_⟩
  try exact sf
  try rfl
 cases g4:(n.S.T.Phase==0)
 ·have e:n.load key b=(n,6):=by rw [NodeV.load,g1,g2,g3,g4]; rfl
  have g5:(n.S.T.Phase != 0)=true:=by rw [bne_not,g4]; rfl
  try simp -implicitDefEqProofs (maxSteps:=1000000) only [go_sem,gt20,g3,g4,g5,e,take_all,take_marks]
  repeat refine ⟨sc,?_⟩
  try exact sf
  try rfl
 have g5:(n.S.T.Phase != 0)=false:=by rw [bne_not,g4]; rfl
 have e:n.load key b=(n.added (loadRec n key b),bif (n.S.add (loadRec n key b)).2 then 0 else 5):=by rw [NodeV.load,g1,g2,g3,g4]; rfl
 have t2:=c_s_l13Add n.S (loadRec n key b) k1 k2 hn.2 (loadRec_in n hk hb)
 cases g6:(decode n.Cs b).2
 all_goals
  simp only [loadRec,g6,Bool.not_false,Bool.not_true] at t2 e
  try simp -implicitDefEqProofs (maxSteps:=1000000) only [go_sem,gt20,g3,g4,g5]
  repeat refine ⟨sc,?_⟩
  try exact sf
  refine .of (c_s_Decode n.Cs b hb) ?_
  try simp -implicitDefEqProofs (maxSteps:=1000000) only [go_sem,take_rows]
  repeat refine ⟨sc,?_⟩
  try exact sf
  rw [g6]
  try simp -implicitDefEqProofs (maxSteps:=1000000) only [go_sem,g6,take_rows]
  repeat refine ⟨sc,?_⟩
  try exact sf
  refine .of (t2) ?_
  try simp -implicitDefEqProofs (maxSteps:=1000000) only [go_sem,take_all,take_marks]
  repeat refine ⟨sc,?_⟩
  try exact sf
  cases g7:(n.S.add (RecV.mk 1 ⟨key,⟨n.Cs,b⟩,⟨0,[]⟩,1,!(decode n.Cs b).2⟩ ⟨#[]⟩ 0 0 0 0)).2
  all_goals
   rw [g6] at g7
   simp only [Bool.not_false,Bool.not_true] at g7
   try simp -implicitDefEqProofs (maxSteps:=1000000) only [go_sem,g7,e,NodeV.added,NodeV.enc,take_all,take_marks]
   repeat refine ⟨sc,?_⟩
   try exact sf
   try rfl
def x_s_NodeOk:FnX:=⟨11,[.tmp 2],
  .q [.v 1 0,.F 2]
 (.q [.f 3 1 0,.L 4 9 3,.c 5 119 [4],.m 6 5,.y 6 (.f 7 1 9),.y 6 (.l 8 7),.y 6 (.op 9 (.call 120 [0,0,0] [(.t 8),(.i 1),(.i 5)])),.a 10 6 9,.m 2 10]
 .ret)⟩
theorem r_s_NodeOk {Te:TE} (c_s_StoreOk:C_s_StoreOk Te) (c_s_l1In:C_s_l1In Te):C_s_NodeOk (RF Te x_s_NodeOk):=by
 intro n h
 refine run0 ?_
 simp -implicitDefEqProofs (maxSteps:=1000000) only [x_s_NodeOk,go_sem,NodeV.ok]
 repeat refine ⟨sc,?_⟩
 try exact sf
 refine C0 (c_s_StoreOk n.S h) ?_
 cases g1:n.S.ok
 ·exact F0
 ·refine G0 ?_
  exact D0 (c_s_l1In _ _ _)
end Go.X

