/- Texts: CVq CVr CT_2 CVp CVw CVp_2 CVy CEa_5 CVf CVx_2. -/
import Derived.Test.YtlfciaccddhhoaaGreatDoorC04
set_option linter.unusedVariables false
set_option linter.unusedSimpArgs false
namespace Go.X
set_option maxRecDepth 100000
set_option maxHeartbeats 8000000
def x_i_withMark:FnX:=⟨46,[.tmp 4],
  .q [.v 3 1,.op 4 (.mv (.k (.one (.nils 3))))]
 (.q [.op 9 (.bslice 3 []),.m 5 9]
 (.q [.F 6]
 (.seq (.q [.m 10 0,.n 11 10,.i 12 0]
 (.block 0 (.loop [3,5,6,10,11,12] (.q [.b 13 .lss 12 11]
 (.seq (.cond 13 .skip (.exit 0))
 (.seq (.block 1 (.q [.x 14 3 10 12,.L 15 3 14,.op 8 (.alloc [.i 0,.i 0,.i 0]),.s 100001 3 8 15]
 (.seq (.q [.m 16 6,.N 17 16,.m 18 17,.y 18 (.f 19 8 0),.y 18 (.l 20 19),.y 18 (.f 21 3 0),.y 18 (.l 22 21),.y 18 (.b 23 .geq 20 22),.a 24 18 23]
 (.c 24 (.q [.m 25 5,.L 26 3 3,.op 27 (.bslice 3 [(.t 26)]),.op 28 (.app 3 24 (.t 25) (.t 27)),.m 5 28]
 (.reg [.T 6]))))
 (.q [.f 29 8 0,.l 30 29,.f 31 3 0,.l 32 31,.b 33 .neq 30 32]
 (.c 33 (.reg [.m 34 5,.L 35 3 8,.op 36 (.bslice 3 [(.t 35)]),.op 37 (.app 3 24 (.t 34) (.t 36)),.m 5 37]))))))
 (.reg [.B 38 .add 12 1,.m 12 38])))))))
 (.norm [3,5,6] (.seq (.q [.m 39 6,.N 40 39]
 (.c 40 (.reg [.m 41 5,.L 42 3 3,.op 43 (.bslice 3 [(.t 42)]),.op 44 (.app 3 24 (.t 41) (.t 43)),.m 5 44])))
 (.q [.m 45 5,.m 4 45]
 .ret))))))⟩
theorem r_i_withMark {Te:TE}:C_i_withMark (RF Te x_i_withMark):=by
 intro l m h
 refine X0 x_i_withMark.eq_1 ?_
 refine loop_of (σ:=Nat×List MarkV×Bool) (fun x=>⟨[(3,.bp 3 0),(5,.one (.rf 48 0 [] 3 0 x.2.1.length)),(6,.one (.pv (.bool x.2.2))),(10,.one (.ro 3 (l.map MarkV.row))),(11,.one (.pv (.int .i64 l.length))),(12,.one (.pv (.int .i64 x.1)))],[(3,[.pv (.int .i64 m.Who),.pv (.int .i64 m.Seq),.pv (.int .i64 m.Code)])],[(0,[slT false 3 MarkV.row l]),(1,m.row),(48,[slT true 3 MarkV.row x.2.1])]⟩) (fun x=>x.1≤l.length∧x.2=(l.take x.1).foldl (insM m) ([],false)) (fun x=>l.length - x.1) (0,[],false) ?_ ⟨Nat.zero_le _,rfl⟩ ?_
 ·simp -implicitDefEqProofs (maxSteps:=1000000) only [go_sem]
  try rfl
 ·rintro ⟨i,o,p⟩ ⟨hi,he⟩
  simp only at hi he
  have hol:o.length≤2 * l.length:=by
   have:=insM_le m (l.take i) ([],false)
   rw [← he] at this
   simp only [List.length_nil,List.length_take] at this
   omega
  cases q:decide ((i:Int) < (l.length:Int))
  ·have k0:i=l.length:=by simp only [decide_eq_false_iff_not] at q; omega
   rw [k0,List.take_length] at he
   cases p
   ·have e:insMark l m=o++[m]:=by rw [insMark,← he]; rfl
    have ea:=app1M o m
    have et:List.take (o.length + 1) (List.map MarkV.row (o++[m]))=List.map MarkV.row (o++[m]):=List.take_of_length_le (by simp)
    exact F4 q e ea et
   ·have e:insMark l m=o:=by rw [insMark,← he]; rfl
    exact F2 q e
  ·have k1:i < l.length:=by simp only [decide_eq_true_eq] at q; omega
   have es:=insM_step (m:=m) k1
   rw [← he] at es
   cases g2:decide (l[i].Who≠m.Who) <;> cases g1:decide (l[i].Who≥m.Who) <;> cases p
   all_goals
    have g3:(l[i].Who != m.Who)=decide (l[i].Who≠m.Who):=by simp only [bne,ne_eq]; by_cases h:l[i].Who=m.Who <;> simp [h]
    simp only [insM,g1,g2,Bool.not_true,Bool.not_false,Bool.and_true,Bool.and_false,Bool.or_true,Bool.or_false,Bool.true_or,Bool.false_or,Bool.true_and,Bool.false_and,if_true,if_false,Bool.false_eq_true] at es
    have ea:=app1M o m
    have eb:=app1M o l[i]
    have ec:=app1M (o++[m]) l[i]
    have et:List.take (o.length + 1) (List.map MarkV.row (o++[m]))=List.map MarkV.row (o++[m]):=List.take_of_length_le (by simp)
    try simp -implicitDefEqProofs (maxSteps:=1000000) only [go_sem,q,g1,g3,g2,List.getElem?_eq_getElem k1,take_marks,ea,eb,ec,et]
    repeat refine ⟨sc,?_⟩
   all_goals
    refine ⟨(i + 1,(l.take (i + 1)).foldl (insM m) ([],false)),?_,⟨k1,rfl⟩,by simp only; omega⟩
    rw [← es,IntWalk.i64_in _ (by omega)]
    try simp only [List.length_append]
    rfl
def x_s_l12Put:FnX:=⟨53,[.tmp 4],
  .q [.v 3 1,.op 4 (.mv (.k (.one (.nils 3))))]
 (.q [.op 8 (.bslice 3 []),.m 5 8]
 (.q [.F 6]
 (.seq (.q [.i 7 0]
 (.block 0 (.loop [0,3,5,6,7] (.seq (.q [.m 9 7,.m 10 0,.n 11 10,.b 12 .lss 9 11]
 (.cond 12 .skip (.exit 0)))
 (.seq (.block 1 (.seq (.seq (.draw [.m 15 6,.N 16 15,.m 17 16,.y 17 (.m 18 0),.y 17 (.m 19 7),.y 17 (.x 20 3 18 19),.y 17 (.f 21 20 0),.y 17 (.l 22 21),.y 17 (.f 23 3 0),.y 17 (.l 24 23),.y 17 (.b 25 .geq 22 24),.a 26 17 25] [[],[0],[1],[2],[2],[3,4,2],[5,2],[6,2],[2],[8,2],[7,9,2],[2,10]])
 (.c 26 (.q [.m 27 5,.L 28 3 3,.op 29 (.bslice 3 [(.t 28)]),.op 30 (.app 3 24 (.t 27) (.t 29)),.m 5 30]
 (.reg [.T 6]))))
 (.seq (.draw [.m 31 0,.m 32 7,.x 33 3 31 32,.f 34 33 0,.l 35 34,.f 36 3 0,.l 37 36,.b 38 .neq 35 37] [[],[],[0,1],[2],[3],[],[5],[4,6]])
 (.c 38 (.reg [.m 39 5,.m 40 0,.m 41 7,.x 42 3 40 41,.L 43 3 42,.op 44 (.bslice 3 [(.t 43)]),.op 45 (.app 3 24 (.t 39) (.t 44)),.m 5 45])))))
 (.reg [.m 13 7,.B 14 .add 13 1,.m 7 14]))))))
 (.norm [3,5,6] (.seq (.q [.m 46 6,.N 47 46]
 (.c 47 (.reg [.m 48 5,.L 49 3 3,.op 50 (.bslice 3 [(.t 49)]),.op 51 (.app 3 24 (.t 48) (.t 50)),.m 5 51])))
 (.q [.m 52 5,.m 4 52]
 .ret))))))⟩
theorem r_s_l12Put {Te:TE}:C_s_l12Put (RF Te x_s_l12Put):=by
 intro l m h
 refine X0 x_s_l12Put.eq_1 ?_
 refine loop_of (σ:=Nat×List MarkV×Bool) (fun x=>⟨[(0,.one (.ro 3 (l.map MarkV.row))),(3,.bp 3 0),(5,.one (.rf 55 0 [] 3 0 x.2.1.length)),(6,.one (.pv (.bool x.2.2))),(7,.one (.pv (.int .i64 x.1)))],[(3,[.pv (.int .i64 m.Who),.pv (.int .i64 m.Seq),.pv (.int .i64 m.Code)])],[(0,[slT false 3 MarkV.row l]),(1,m.row),(55,[slT true 3 MarkV.row x.2.1])]⟩) (fun x=>x.1≤l.length∧x.2=(l.take x.1).foldl (insM m) ([],false)) (fun x=>l.length - x.1) (0,[],false) ?_ ⟨Nat.zero_le _,rfl⟩ ?_
 ·simp -implicitDefEqProofs (maxSteps:=1000000) only [go_sem]
  try rfl
 ·rintro ⟨i,o,p⟩ ⟨hi,he⟩
  simp only at hi he
  have hol:o.length≤2 * l.length:=by
   have:=insM_le m (l.take i) ([],false)
   rw [← he] at this
   simp only [List.length_nil,List.length_take] at this
   omega
  cases q:decide ((i:Int) < (l.length:Int))
  ·have k0:i=l.length:=by simp only [decide_eq_false_iff_not] at q; omega
   rw [k0,List.take_length] at he
   cases p
   ·have e:insMark l m=o++[m]:=by rw [insMark,← he]; rfl
    have ea:=app1M o m
    have et:List.take (o.length + 1) (List.map MarkV.row (o++[m]))=List.map MarkV.row (o++[m]):=List.take_of_length_le (by simp)
    exact F4 q e ea et
   ·have e:insMark l m=o:=by rw [insMark,← he]; rfl
    exact F2 q e
  ·have k1:i < l.length:=by simp only [decide_eq_true_eq] at q; omega
   have es:=insM_step (m:=m) k1
   rw [← he] at es
   cases g2:decide (l[i].Who≠m.Who) <;> cases g1:decide (l[i].Who≥m.Who) <;> cases p
   all_goals
    have g3:(l[i].Who != m.Who)=decide (l[i].Who≠m.Who):=by simp only [bne,ne_eq]; by_cases h:l[i].Who=m.Who <;> simp [h]
    simp only [insM,g1,g2,Bool.not_true,Bool.not_false,Bool.and_true,Bool.and_false,Bool.or_true,Bool.or_false,Bool.true_or,Bool.false_or,Bool.true_and,Bool.false_and,if_true,if_false,Bool.false_eq_true] at es
    have ea:=app1M o m
    have eb:=app1M o l[i]
    have ec:=app1M (o++[m]) l[i]
    have et:List.take (o.length + 1) (List.map MarkV.row (o++[m]))=List.map MarkV.row (o++[m]):=List.take_of_length_le (by simp)
    try simp -implicitDefEqProofs (maxSteps:=1000000) only [go_sem,q,g1,g3,g2,List.getElem?_eq_getElem k1,take_marks,ea,eb,ec,et]
    repeat refine ⟨sc,?_⟩
   all_goals
    refine ⟨(i + 1,(l.take (i + 1)).foldl (insM m) ([],false)),?_,⟨k1,rfl⟩,by simp only; omega⟩
    rw [← es,IntWalk.i64_in _ (by omega)]
    try simp only [List.length_append]
    rfl
def x_i_withRow:FnX:=⟨48,[.tmp 4],
  .q [.v 3 1,.op 4 (.mv (.k (.one (.nils 7))))]
 (.q [.op 9 (.bslice 7 []),.m 5 9]
 (.q [.F 6]
 (.seq (.q [.m 10 0,.n 11 10,.i 12 0]
 (.block 0 (.loop [3,5,6,10,11,12] (.q [.b 13 .lss 12 11]
 (.seq (.cond 13 .skip (.exit 0))
 (.seq (.block 1 (.q [.x 14 7 10 12,.L 15 7 14,.op 8 (.alloc [.e,.i 0,.nils 1,.i 0,.nils 1,.i 0,.F]),.s 100001 7 8 15]
 (.seq (.q [.m 16 6,.N 17 16,.m 18 17,.y 18 (.f 19 8 0),.y 18 (.l 20 19),.y 18 (.f 21 3 0),.y 18 (.l 22 21),.y 18 (.b 23 .geq 20 22),.a 24 18 23]
 (.c 24 (.q [.m 25 5,.L 26 7 3,.c 27 164 [26],.op 28 (.bslice 7 [(.t 27)]),.op 29 (.app 7 96 (.t 25) (.t 28)),.m 5 29]
 (.reg [.T 6]))))
 (.q [.f 30 8 0,.l 31 30,.f 32 3 0,.l 33 32,.b 34 .neq 31 33]
 (.c 34 (.reg [.m 35 5,.L 36 7 8,.op 37 (.bslice 7 [(.t 36)]),.op 38 (.app 7 96 (.t 35) (.t 37)),.m 5 38]))))))
 (.reg [.B 39 .add 12 1,.m 12 39])))))))
 (.norm [3,5,6] (.seq (.q [.m 40 6,.N 41 40]
 (.c 41 (.reg [.m 42 5,.L 43 7 3,.c 44 164 [43],.op 45 (.bslice 7 [(.t 44)]),.op 46 (.app 7 96 (.t 42) (.t 45)),.m 5 46])))
 (.q [.m 47 5,.m 4 47]
 .ret))))))⟩
theorem r_i_withRow {Te:TE} (c_i_copyRow:C_i_copyRow Te):C_i_withRow (RF Te x_i_withRow):=by
 intro l r h hr
 refine X0 x_i_withRow.eq_1 ?_
 refine loop_of (σ:=Nat×List RowV×Bool) (fun x=>⟨[(3,.bp 3 0),(5,.one (.rf 50 0 [] 7 0 x.2.1.length)),(6,.one (.pv (.bool x.2.2))),(10,.one (.rf 0 0 [] 7 0 l.length)),(11,.one (.pv (.int .i64 l.length))),(12,.one (.pv (.int .i64 x.1)))],[(3,[.pv (.string r.Key),.pv (.int .i64 r.Old.Tag),.ro 1 (r.Old.B.map uR),.pv (.int .i64 r.New.Tag),.ro 1 (r.New.B.map uR),.pv (.int .i64 r.Has),.pv (.bool r.Aside)])],[(0,[Tr.sl true 7 () (leftRows r l x.1)]),(1,r.enc false),(50,[slT true 7 (RowV.enc true) x.2.1])]⟩) (fun x=>x.1≤l.length∧x.2=(l.take x.1).foldl (insR r) ([],false)) (fun x=>l.length - x.1) (0,[],false) ?_ ⟨Nat.zero_le _,rfl⟩ ?_
 ·simp -implicitDefEqProofs (maxSteps:=1000000) only [go_sem,left_zero]
  try rfl
 ·rintro ⟨i,o,p⟩ ⟨hi,he⟩
  simp only at hi he
  have hol:o.length≤2 * l.length:=by
   have:=insR_le r (l.take i) ([],false)
   rw [← he] at this
   simp only [List.length_nil,List.length_take] at this
   omega
  have ea:=app1Rw o r
  have et:List.take (o.length + 1) (List.map (RowV.enc true) (o++[r]))=List.map (RowV.enc true) (o++[r]):=List.take_of_length_le (by simp)
  cases q:decide ((i:Int) < (l.length:Int))
  ·have k0:i=l.length:=by simp only [decide_eq_false_iff_not] at q; omega
   rw [k0,List.take_length] at he
   subst k0
   cases p
   ·have e:insRow l r=o++[r]:=by rw [insRow,← he]; rfl
    refine G1 q ?_
    exact D3 (c_i_copyRow r hr) e ea et
   ·have e:insRow l r=o:=by rw [insRow,← he]; rfl
    exact F2 q e
  ·have k1:i < l.length:=by simp only [decide_eq_true_eq] at q; omega
   have es:=insR_step (r:=r) k1
   rw [← he] at es
   have eg:=left_get (r:=r) k1
   have ed:(leftRows r l i).getD i []=l[i].enc true:=by rw [List.getD_eq_getElem?_getD,eg]; rfl
   have el:=left_len r l i
   have ex:=left_set (r:=r) k1
   have e1:∀ X:List T,((leftRows r l i).set i X)[i]?=some X:=fun X=>List.getElem?_set_self (by rw [el]; exact k1)
   have e2:∀ X:List T,((leftRows r l i).set i X).getD i []=X:=fun X=>by rw [List.getD_eq_getElem?_getD,e1]; rfl
   have eb:=app1Rw o l[i]
   have ec:=app1Rw (o++[r]) l[i]
   cases g2:decide (l[i].Key=r.Key) <;> cases g1:Op.bytesLess l[i].Key.toList r.Key.toList <;> cases p
   all_goals
    simp only [insR,g1,g2,Bool.not_true,Bool.not_false,Bool.and_true,Bool.and_false,Bool.or_true,Bool.or_false,Bool.true_or,Bool.false_or,Bool.true_and,Bool.false_and,if_true,if_false,Bool.false_eq_true] at es
    simp only [leftR,g2,if_true,if_false,Bool.false_eq_true] at ex
    try simp -implicitDefEqProofs (maxSteps:=1000000) only [go_sem,q,g1,g2,eg,ed,el,ex,e1,e2,List.set_set,List.length_set,take_rows,take_all,ea,eb,ec,et]
    repeat refine ⟨sc,?_⟩
   all_goals try (refine .of (c_i_copyRow r hr) ?_; try simp -implicitDefEqProofs (maxSteps:=1000000) only [go_sem,g1,g2,eg,ed,el,ex,e1,e2,List.set_set,List.length_set,take_rows,take_all,ea,eb,ec,et])
   all_goals
    repeat refine ⟨sc,?_⟩
   all_goals
    refine ⟨(i + 1,(l.take (i + 1)).foldl (insR r) ([],false)),?_,⟨k1,rfl⟩,by simp only; omega⟩
    rw [← es,IntWalk.i64_in _ (by omega)]
    try simp only [List.length_append]
    try rw [left_same k1 g2]
    rfl
def x_u_appendRuneNonASCII:FnX:=⟨78,[.tmp 4],
  .q [.op 4 (.mv (.k (.one (.nils 1))))]
 (.q [.m 6 1,.op 7 (.conv (.int .u32) (.t 6)),.m 5 7]
 (.block 0 (.q [.m 12 5,.op 13 (.bin .leq (.t 12) (.k (.one (.pv (.int .u32 2047))))),.m 11 13]
 (.cond 11 (.q [.m 14 0,.m 15 1,.op 16 (.bin .shr (.t 15) (.k (.one (.pv (.int .u64 6))))),.op 17 (.conv (.int .u8) (.t 16)),.op 18 (.bin .or (.k (.one (.pv (.int .u8 192)))) (.t 17)),.m 19 1,.op 20 (.conv (.int .u8) (.t 19)),.op 21 (.bin .and (.t 20) (.k (.one (.pv (.int .u8 63))))),.op 22 (.bin .or (.k (.one (.pv (.int .u8 128)))) (.t 21)),.op 23 (.bslice 1 [(.t 18),(.t 22)]),.op 24 (.app 1 1 (.t 14) (.t 23)),.m 4 24]
 .ret) (.seq (.q [.m 26 5,.op 27 (.bin .lss (.t 26) (.k (.one (.pv (.int .u32 55296))))),.m 25 27]
 (.cond 25 .skip (.reg [.m 28 5,.op 29 (.bin .lss (.k (.one (.pv (.int .u32 57343)))) (.t 28)),.m 30 29,.y 30 (.m 31 5),.y 30 (.op 32 (.bin .leq (.t 31) (.k (.one (.pv (.int .u32 65535)))))),.a 33 30 32,.m 25 33])))
 (.cond 25 (.q [.m 34 0,.m 35 1,.op 36 (.bin .shr (.t 35) (.k (.one (.pv (.int .u64 12))))),.op 37 (.conv (.int .u8) (.t 36)),.op 38 (.bin .or (.k (.one (.pv (.int .u8 224)))) (.t 37)),.m 39 1,.op 40 (.bin .shr (.t 39) (.k (.one (.pv (.int .u64 6))))),.op 41 (.conv (.int .u8) (.t 40)),.op 42 (.bin .and (.t 41) (.k (.one (.pv (.int .u8 63))))),.op 43 (.bin .or (.k (.one (.pv (.int .u8 128)))) (.t 42)),.m 44 1,.op 45 (.conv (.int .u8) (.t 44)),.op 46 (.bin .and (.t 45) (.k (.one (.pv (.int .u8 63))))),.op 47 (.bin .or (.k (.one (.pv (.int .u8 128)))) (.t 46)),.op 48 (.bslice 1 [(.t 38),(.t 43),(.t 47)]),.op 49 (.app 1 1 (.t 34) (.t 48)),.m 4 49]
 .ret) (.q [.m 51 5,.op 52 (.bin .gtr (.t 51) (.k (.one (.pv (.int .u32 65535))))),.m 53 52,.y 53 (.m 54 5),.y 53 (.op 55 (.bin .leq (.t 54) (.k (.one (.pv (.int .u32 1114111)))))),.a 56 53 55,.m 50 56]
 (.cond 50 (.q [.m 57 0,.m 58 1,.op 59 (.bin .shr (.t 58) (.k (.one (.pv (.int .u64 18))))),.op 60 (.conv (.int .u8) (.t 59)),.op 61 (.bin .or (.k (.one (.pv (.int .u8 240)))) (.t 60)),.m 62 1,.op 63 (.bin .shr (.t 62) (.k (.one (.pv (.int .u64 12))))),.op 64 (.conv (.int .u8) (.t 63)),.op 65 (.bin .and (.t 64) (.k (.one (.pv (.int .u8 63))))),.op 66 (.bin .or (.k (.one (.pv (.int .u8 128)))) (.t 65)),.m 67 1,.op 68 (.bin .shr (.t 67) (.k (.one (.pv (.int .u64 6))))),.op 69 (.conv (.int .u8) (.t 68)),.op 70 (.bin .and (.t 69) (.k (.one (.pv (.int .u8 63))))),.op 71 (.bin .or (.k (.one (.pv (.int .u8 128)))) (.t 70)),.m 72 1,.op 73 (.conv (.int .u8) (.t 72)),.op 74 (.bin .and (.t 73) (.k (.one (.pv (.int .u8 63))))),.op 75 (.bin .or (.k (.one (.pv (.int .u8 128)))) (.t 74)),.op 76 (.bslice 1 [(.t 61),(.t 66),(.t 71),(.t 75)]),.op 77 (.app 1 1 (.t 57) (.t 76)),.m 4 77]
 .ret) (.q [.m 8 0,.op 9 (.bslice 1 [(.k (.one (.pv (.int .u8 239)))),(.k (.one (.pv (.int .u8 191)))),(.k (.one (.pv (.int .u8 189))))]),.op 10 (.app 1 1 (.t 8) (.t 9)),.m 4 10]
 .ret)))))))))⟩
theorem r_u_appendRuneNonASCII {Te:TE}:C_u_appendRuneNonASCII (RF Te x_u_appendRuneNonASCII):=by
 intro b m hb hm
 refine run0 ?_
 obtain ⟨hq,h1,h2⟩:=hm
 replace hq:¬ m≤127:=by omega
 have w32:IntKind.u32.wrap (m:Int)=(m:Int):=by rw [IntKind.wrap_u32]; omega
 have d6:(m:Int).fdiv (2 ^ 6)=((m / 64:Nat):Int):=fdivN m 64
 have d12:(m:Int).fdiv (2 ^ 12)=((m / 4096:Nat):Int):=fdivN m 4096
 have d18:(m:Int).fdiv (2 ^ 18)=((m / 262144:Nat):Int):=fdivN m 262144
 have n6:Nat.min 6 32=6:=rfl
 have n12:Nat.min 12 32=12:=rfl
 have n18:Nat.min 18 32=18:=rfl
 have a0:andK .u8 (((mkU (m:Int)).toNat:Nat):Int) 63=((m % 64:Nat):Int):=by rw [mkU_toNat,and8 _ (by omega)]; omega
 have a6:andK .u8 (((mkU ((m / 64:Nat):Int)).toNat:Nat):Int) 63=((m / 64 % 64:Nat):Int):=by rw [mkU_toNat,and8 _ (by omega)]; omega
 have a12:andK .u8 (((mkU ((m / 4096:Nat):Int)).toNat:Nat):Int) 63=((m / 4096 % 64:Nat):Int):=by rw [mkU_toNat,and8 _ (by omega)]; omega
 have o0:orK .u8 128 ((m % 64:Nat):Int)=((UInt8.ofNat (128 + m % 64)).toNat:Int):=or8 128 6 2 rfl (by omega) (by omega)
 have o6:orK .u8 128 ((m / 64 % 64:Nat):Int)=((UInt8.ofNat (128 + m / 64 % 64)).toNat:Int):=or8 128 6 2 rfl (by omega) (by omega)
 have o12:orK .u8 128 ((m / 4096 % 64:Nat):Int)=((UInt8.ofNat (128 + m / 4096 % 64)).toNat:Int):=or8 128 6 2 rfl (by omega) (by omega)
 cases q2:decide ((m:Int)≤2047)
 ·have hq2:¬ m≤2047:=by simp only [decide_eq_false_iff_not] at q2; omega
  cases q3:decide ((m:Int)≤65535)
  ·have hq3:¬ m≤65535:=by simp only [decide_eq_false_iff_not] at q3; omega
   have t:orK .u8 240 (((mkU ((m / 262144:Nat):Int)).toNat:Nat):Int)=((UInt8.ofNat (240 + m / 262144)).toNat:Int):=by
    rw [mkU_toNat,Nat.mod_eq_of_lt (by omega)]; exact or8 240 3 30 rfl (by omega) (by omega)
   have ee:List.take (b.length + 4) (List.map uR b++[[uT (UInt8.ofNat (240 + m / 262144))],[uT (UInt8.ofNat (128 + m / 4096 % 64))],[uT (UInt8.ofNat (128 + m / 64 % 64))],[uT (UInt8.ofNat (128 + m % 64))]])=List.map uR (b++enc8 m):=by
    rw [List.take_of_length_le (by simp)]
    simp only [enc8,if_neg hq,if_neg hq2,if_neg hq3,List.map_append,List.map_cons,List.map_nil]
   have c1:decide ((m:Int) < 55296)=false:=decide_eq_false (by omega)
   have c2:decide ((57343:Int) < (m:Int))=true:=decide_eq_true (by omega)
   have c3:decide ((m:Int) > 65535)=true:=decide_eq_true (by omega)
   have c4:decide ((m:Int)≤1114111)=true:=decide_eq_true (by omega)
   simp -implicitDefEqProofs (maxSteps:=1000000) only [x_u_appendRuneNonASCII,go_sem,w32,q2,q3,c1,c2,c3,c4,n6,n12,n18,d6,d12,d18,mkU_wrap,a0,a6,a12,o0,o6,o12,t,ee]
   repeat refine ⟨sc,?_⟩
   try exact sf
  ·have hq3:m≤65535:=by simp only [decide_eq_true_eq] at q3; omega
   have t:orK .u8 224 (((mkU ((m / 4096:Nat):Int)).toNat:Nat):Int)=((UInt8.ofNat (224 + m / 4096)).toNat:Int):=by
    rw [mkU_toNat,Nat.mod_eq_of_lt (by omega)]; exact or8 224 4 14 rfl (by omega) (by omega)
   have ee:List.take (b.length + 3) (List.map uR b++[[uT (UInt8.ofNat (224 + m / 4096))],[uT (UInt8.ofNat (128 + m / 64 % 64))],[uT (UInt8.ofNat (128 + m % 64))]])=List.map uR (b++enc8 m):=by
    rw [List.take_of_length_le (by simp)]
    simp only [enc8,if_neg hq,if_neg hq2,if_pos hq3,List.map_append,List.map_cons,List.map_nil]
   cases c1:decide ((m:Int) < 55296)
   ·have c2:decide ((57343:Int) < (m:Int))=true:=decide_eq_true (by simp only [decide_eq_false_iff_not] at c1; omega)
    simp -implicitDefEqProofs (maxSteps:=1000000) only [x_u_appendRuneNonASCII,go_sem,w32,q2,q3,c1,c2,n6,n12,d6,d12,mkU_wrap,a0,a6,o0,o6,t,ee]
    repeat refine ⟨sc,?_⟩
    try exact sf
   ·simp -implicitDefEqProofs (maxSteps:=1000000) only [x_u_appendRuneNonASCII,go_sem,w32,q2,q3,c1,n6,n12,d6,d12,mkU_wrap,a0,a6,o0,o6,t,ee]
    repeat refine ⟨sc,?_⟩
    try exact sf
 ·have hq2:m≤2047:=by simp only [decide_eq_true_eq] at q2; omega
  have t:orK .u8 192 (((mkU ((m / 64:Nat):Int)).toNat:Nat):Int)=((UInt8.ofNat (192 + m / 64)).toNat:Int):=by
   rw [mkU_toNat,Nat.mod_eq_of_lt (by omega)]; exact or8 192 6 3 rfl (by omega) (by omega)
  have ee:List.take (b.length + 2) (List.map uR b++[[uT (UInt8.ofNat (192 + m / 64))],[uT (UInt8.ofNat (128 + m % 64))]])=List.map uR (b++enc8 m):=by
   rw [List.take_of_length_le (by simp)]
   simp only [enc8,if_neg hq,if_pos hq2,List.map_append,List.map_cons,List.map_nil]
  simp -implicitDefEqProofs (maxSteps:=1000000) only [x_u_appendRuneNonASCII,go_sem,w32,q2,n6,d6,mkU_wrap,a0,o0,t,ee]
  repeat refine ⟨sc,?_⟩
  try exact sf
def x_s_l10Copy:FnX:=⟨58,[.cell 2 (some 4)],
  .q [.v 1 0,.op 2 (.alloc [.nils 1,.nils 2,.i 0,.F])]
 (.q [.f 6 1 2,.l 7 6,.f 8 1 3,.l 9 8,.op 10 (.build [.nils 1,.nils 2,.i 0,.F] [(2,1,(.t 7)),(3,1,(.t 9))]),.op 3 (.alloc [.nils 1,.nils 2,.i 0,.F]),.s 100001 4 3 10]
 (.seq (.q [.i 4 0]
 (.up 3 1 300001 (.up 3 0 300000 (.block 0 (.loop [1,2,3,4] (.seq (.q [.m 11 4,.f 12 1 0,.l 13 12,.n 14 13,.b 15 .lss 11 14]
 (.cond 15 .skip (.exit 0)))
 (.seq (.block 1 (.draw [.f 18 3 0,.l 19 18,.op 20 (.bslice 1 []),.f 21 1 0,.l 22 21,.m 23 4,.x 24 1 22 23,.l 25 24,.op 26 (.app 1 1 (.t 20) (.t 25)),.op 27 (.bslice 1 [(.t 26)]),.op 28 (.app 1 24 (.t 19) (.t 27)),.f 29 3 0,.s 100002 1 29 28] [[],[0],[],[],[3],[],[4,5],[6],[2,7],[8],[1,9,8],[0,1,2,3,4,5,6,7,8,9,10],[11,10,10,0,1,2,3,4,5,6,7,8,9,10]]))
 (.reg [.m 16 4,.B 17 .add 16 1,.m 4 17]))))))))
 (.norm [1,2,3] (.seq (.q [.i 5 0]
 (.block 2 (.loop [1,2,3,5] (.seq (.q [.m 30 5,.f 31 1 1,.l 32 31,.n 33 32,.b 34 .lss 30 33]
 (.cond 34 .skip (.exit 2)))
 (.seq (.block 3 (.draw [.f 37 3 1,.l 38 37,.f 39 1 1,.l 40 39,.m 41 5,.x 42 2 40 41,.f 43 42 0,.l 44 43,.op 45 (.bslice 1 []),.f 46 1 1,.l 47 46,.m 48 5,.x 49 2 47 48,.f 50 49 1,.l 51 50,.op 52 (.app 1 1 (.t 45) (.t 51)),.op 53 (.build [.i 0,.nils 1] [(0,1,(.t 44)),(1,1,(.t 52))]),.op 54 (.bslice 2 [(.t 53)]),.op 55 (.app 2 32 (.t 38) (.t 54)),.f 56 3 1,.s 100003 1 56 55] [[],[0],[],[2],[],[3,4],[5],[6],[],[],[9],[],[10,11],[12],[13],[8,14],[7,15],[16],[1,17,15],[0,1,2,3,4,5,6,7,8,9,10,11,12,13,14,15,16,17,18],[19,18,18,0,1,2,3,4,5,6,7,8,9,10,11,12,13,14,15,16,17,18]]))
 (.reg [.m 35 5,.B 36 .add 35 1,.m 5 36]))))))
 (.norm [2,3] (.q [.L 57 4 3,.s 100004 4 2 57]
 .ret))))))⟩
theorem r_s_l10Copy {Te:TE}:C_s_l10Copy (RF Te x_s_l10Copy):=by
 intro d h
 obtain ⟨⟨hS,hSl⟩,hC,hCl⟩:=h
 refine X0 x_s_l10Copy.eq_1 ?_
 refine loop_of (σ:=Nat×List (List UInt8)) (fun x=>⟨[(1,.bp 1 0),(2,.bp 2 0),(3,.bp 3 0),(4,.one (.pv (.int .i64 x.1)))],[(1,[.ro 1 (d.Secs.map (secR false)),.ro 2 (d.Cache.map (WrV.enc false)),.pv (.int .i64 d.Fuse),.pv (.bool d.Down)]),(2,[.nils 1,.nils 2,.pv (.int .i64 0),.pv (.bool false)]),(3,[.rf 59 0 [] 1 0 x.2.length,.rf 60 0 [] 2 0 0,.pv (.int .i64 d.Fuse),.pv (.bool d.Down)])],[(0,d.enc false),(59,[slT true 1 (secR true) x.2]),(60,[slT true 2 (WrV.enc true) []])]⟩) (fun x=>x.1≤d.Secs.length∧x.2=d.Secs.take x.1) (fun x=>d.Secs.length - x.1) (0,[]) ?_ ⟨Nat.zero_le _,rfl⟩ ?_
 ·simp -implicitDefEqProofs (maxSteps:=1000000) only [go_sem]
  try rfl
 ·rintro ⟨i,l⟩ ⟨hi,he⟩
  simp only at hi he
  have hl:l.length=i:=by rw [he,List.length_take]; omega
  cases q:decide ((i:Int) < (d.Secs.length:Int))
  ·have k0:i=d.Secs.length:=by simp only [decide_eq_false_iff_not] at q; omega
   rw [k0,List.take_length] at he
   subst he
   refine G1 q ?_
   refine loop_of (σ:=Nat×List WrV) (fun x=>⟨[(1,.bp 1 0),(2,.bp 2 0),(3,.bp 3 0),(5,.one (.pv (.int .i64 x.1)))],[(1,[.ro 1 (d.Secs.map (secR false)),.ro 2 (d.Cache.map (WrV.enc false)),.pv (.int .i64 d.Fuse),.pv (.bool d.Down)]),(2,[.nils 1,.nils 2,.pv (.int .i64 0),.pv (.bool false)]),(3,[.rf 59 0 [] 1 0 d.Secs.length,.rf 60 0 [] 2 0 x.2.length,.pv (.int .i64 d.Fuse),.pv (.bool d.Down)])],[(0,d.enc false),(59,[slT true 1 (secR true) d.Secs]),(60,[slT true 2 (WrV.enc true) x.2])]⟩) (fun x=>x.1≤d.Cache.length∧x.2=d.Cache.take x.1) (fun x=>d.Cache.length - x.1) (0,[]) ?_ ⟨Nat.zero_le _,rfl⟩ ?_
   ·simp -implicitDefEqProofs (maxSteps:=1000000) only [go_sem]
    try rfl
   ·rintro ⟨j,m⟩ ⟨hj,hm⟩
    simp only at hj hm
    have hml:m.length=j:=by rw [hm,List.length_take]; omega
    cases q2:decide ((j:Int) < (d.Cache.length:Int))
    ·have k2:j=d.Cache.length:=by simp only [decide_eq_false_iff_not] at q2; omega
     rw [k2,List.take_length] at hm
     subst hm
     exact F1 q2
    ·have k2:j < d.Cache.length:=by simp only [decide_eq_true_eq] at q2; omega
     have hb:d.Cache[j].B.length≤2 ^ 21:=hCl _ (List.getElem_mem k2)
     have ea:=app1W m d.Cache[j]
     refine G3 q2 (List.getElem?_eq_getElem k2) ea ?_
     refine ⟨(j + 1,m++[d.Cache[j]]),?_,⟨k2,by rw [hm,List.take_succ_eq_append_getElem k2]⟩,by simp only; omega⟩
     rw [IntWalk.i64_in _ (by omega)]
     simp only [List.length_append]
     rfl
  ·have k1:i < d.Secs.length:=by simp only [decide_eq_true_eq] at q; omega
   have hb:d.Secs[i].length≤2 ^ 21:=hSl _ (List.getElem_mem k1)
   have ea:=app1S l d.Secs[i]
   refine G3 q (List.getElem?_eq_getElem k1) ea ?_
   refine ⟨(i + 1,l++[d.Secs[i]]),?_,⟨k1,by rw [he,List.take_succ_eq_append_getElem k1]⟩,by simp only; omega⟩
   rw [IntWalk.i64_in _ (by omega)]
   simp only [List.length_append]
   rfl
def x_i_copyTab:FnX:=⟨29,[.cell 2 (some 3)],
  .q [.v 1 0,.op 2 (.alloc [.nils 7,.i 0,.nils 3])]
 (.seq (.draw [.f 6 1 1,.l 7 6,.op 8 (.bslice 3 []),.f 9 1 2,.l 10 9,.op 11 (.app 3 24 (.t 8) (.t 10)),.op 12 (.build [.nils 7,.i 0,.nils 3] [(1,1,(.t 7)),(2,1,(.t 11))]),.op 3 (.alloc [.nils 7,.i 0,.nils 3]),.s 100001 3 3 12] [[],[0],[],[],[3],[2,4],[1,5],[],[7,6,5,0,1,2,3,4,5,6,7]])
 (.seq (.q [.f 13 1 0,.l 14 13,.n 15 14,.i 16 0]
 (.up 3 0 300000 (.block 0 (.loop [2,3,14,15,16] (.q [.b 17 .lss 16 15]
 (.seq (.cond 17 .skip (.exit 0))
 (.seq (.block 1 (.q [.x 18 7 14 16,.L 19 7 18,.op 5 (.alloc [.e,.i 0,.nils 1,.i 0,.nils 1,.i 0,.F]),.s 100002 7 5 19]
 (.draw [.f 20 3 0,.l 21 20,.L 22 7 5,.c 23 164 [22],.op 24 (.bslice 7 [(.t 23)]),.op 25 (.app 7 96 (.t 21) (.t 24)),.f 26 3 0,.s 100003 1 26 25] [[],[0],[],[2],[3],[1,4,3],[0,1,2,3,4,5],[6,5,5,0,1,2,3,4,5]])))
 (.reg [.B 27 .add 16 1,.m 16 27]))))))))
 (.norm [2,3] (.q [.L 28 3 3,.s 100004 3 2 28]
 .ret))))⟩
theorem r_i_copyTab {Te:TE} (c_i_copyRow:C_i_copyRow Te):C_i_copyTab (RF Te x_i_copyTab):=by
 intro t h
 obtain ⟨⟨hR,hRl⟩,hM⟩:=h
 refine X0 x_i_copyTab.eq_1 ?_
 refine loop_of (σ:=Nat×List RowV) (fun x=>⟨[(2,.bp 2 0),(3,.bp 3 0),(14,.one (.ro 7 (t.Rows.map (RowV.enc false)))),(15,.one (.pv (.int .i64 t.Rows.length))),(16,.one (.pv (.int .i64 x.1)))],[(2,[.nils 7,.pv (.int .i64 0),.nils 3]),(3,[.rf 30 0 [] 7 0 x.2.length,.pv (.int .i64 t.Phase),.rf 31 0 [] 3 0 t.Marks.length])],[(0,t.enc false),(30,[slT true 7 (RowV.enc true) x.2]),(31,[slT true 3 MarkV.row t.Marks])]⟩) (fun x=>x.1≤t.Rows.length∧x.2=t.Rows.take x.1) (fun x=>t.Rows.length - x.1) (0,[]) ?_ ⟨Nat.zero_le _,rfl⟩ ?_
 ·simp -implicitDefEqProofs (maxSteps:=1000000) only [go_sem]
  try rfl
 ·rintro ⟨i,l⟩ ⟨hi,he⟩
  simp only at hi he
  have hl:l.length=i:=by rw [he,List.length_take]; omega
  cases q:decide ((i:Int) < (t.Rows.length:Int))
  ·have k0:i=t.Rows.length:=by simp only [decide_eq_false_iff_not] at q; omega
   rw [k0,List.take_length] at he
   subst he
   exact F1 q
  ·have k1:i < t.Rows.length:=by simp only [decide_eq_true_eq] at q; omega
   have ea:=app1Rw l t.Rows[i]
   refine G2 q (List.getElem?_eq_getElem k1) ?_
   refine C1 (c_i_copyRow t.Rows[i] (hRl _ (List.getElem_mem k1))) ea ?_
   refine ⟨(i + 1,l++[t.Rows[i]]),?_,⟨k1,by rw [he,List.take_succ_eq_append_getElem k1]⟩,by simp only; omega⟩
   rw [IntWalk.i64_in _ (by omega)]
   simp only [List.length_append]
   rfl
def x_i_change:FnX:=⟨32,[.cell 10 (some 10),.tmp 11,.tmp 12],
  .q [.v 5 0,.v 8 3,.op 10 (.alloc [.nils 1,.nils 2,.i 0,.F,.nils 7,.i 0,.nils 3,.i 0,.i 0,.i 0]),.i 11 0,.F 12]
 (.q [.m 15 1,.m 16 2,.m 17 4,.f 18 8 10,.s 100001 1 18 15,.f 19 8 11,.s 100002 1 19 16,.f 20 8 12,.s 100003 1 20 17]
 (.q [.L 22 10 5,.L 23 13 8,.c 24 38 [22,23],.m 21 24,.e 25 21 0,.e 26 21 1,.op 13 (.alloc [.nils 1,.nils 2,.i 0,.F,.nils 7,.i 0,.nils 3,.i 0,.i 0,.i 0]),.s 100004 10 13 25,.m 14 26]
 (.seq (.q [.m 27 14,.N 28 27]
 (.c 28 (.q [.L 29 10 13,.s 100005 10 10 29,.i 11 5,.F 12]
 .ret)))
 (.q [.L 30 10 13,.m 31 4,.s 100006 10 10 30,.m 11 31,.T 12]
 .ret))))⟩
theorem r_i_change {Te:TE} (c_i_added:C_i_added Te):C_i_change (RF Te x_i_change):=by
 intro n who seq r code hn hr
 refine X0 x_i_change.eq_1 ?_
 refine C0 (c_i_added n (r.by who seq code) hn hr) ?_
 cases g:(n.S.add (r.by who seq code)).2
 ·try simp -implicitDefEqProofs (maxSteps:=1000000) only [go_sem,g,NodeV.changed,NodeV.added,take_all,take_marks,NodeV.enc]
  repeat refine ⟨sc,?_⟩
  try exact sf
  try rfl
 ·try simp -implicitDefEqProofs (maxSteps:=1000000) only [go_sem,g,NodeV.changed,NodeV.added,take_all,take_marks,NodeV.enc]
  repeat refine ⟨sc,?_⟩
  try exact sf
  try rfl
def x_i_delRec:FnX:=⟨21,[.cell 4 (some 13),.tmp 5],
  .q [.v 2 0,.op 4 (.alloc [.i 0,.e,.i 0,.nils 1,.i 0,.nils 1,.i 0,.F,.e,.i 0,.i 0,.i 0,.i 0]),.i 5 0]
 (.seq (.block 0 (.q [.m 7 1,.c 8 34 [7],.N 9 8,.m 6 9]
 (.cond 6 (.q [.op 10 (.build [.i 0,.e,.i 0,.nils 1,.i 0,.nils 1,.i 0,.F,.e,.i 0,.i 0,.i 0,.i 0] [(0,1,(.i 4))]),.s 100001 13 4 10,.i 5 1]
 .ret) (.q [.f 12 2 0,.f 13 12 4,.L 14 3 13,.m 15 1,.c 16 91 [14,15],.B 17 .lss 16 0,.m 11 17]
 (.c 11 (.q [.op 18 (.build [.i 0,.e,.i 0,.nils 1,.i 0,.nils 1,.i 0,.F,.e,.i 0,.i 0,.i 0,.i 0] [(0,1,(.i 4))]),.s 100002 13 4 18,.i 5 2]
 .ret))))))
 (.q [.m 19 1,.op 20 (.build [.i 0,.e,.i 0,.nils 1,.i 0,.nils 1,.i 0,.F,.e,.i 0,.i 0,.i 0,.i 0] [(0,1,(.i 2)),(8,1,(.t 19))]),.s 100003 13 4 20,.i 5 0]
 .ret))⟩
theorem r_i_delRec {Te:TE} (c_i_NameOk:C_i_NameOk Te) (c_i_RowAt:C_i_RowAt Te):C_i_delRec (RF Te x_i_delRec):=by
 intro n key hn hk
 refine X0 x_i_delRec.eq_1 ?_
 refine C0 (c_i_NameOk key hk) ?_
 cases g:nameOk key
 ·have e:n.delCode key=1:=by rw [NodeV.delCode,g]; rfl
  exact F1 e
 refine G0 ?_
 refine C0 (c_i_RowAt n.S.T key hn) ?_
 cases g2:decide (rowAt n.S.T.Rows key < 0)
 ·have e:n.delCode key=0:=by rw [NodeV.delCode,g,g2]; rfl
  exact F2 e g2
 ·have e:n.delCode key=2:=by rw [NodeV.delCode,g,g2]; rfl
  exact F2 e g2
def x_i_NodeDel:FnX:=⟨51,[.cell 8 (some 10),.tmp 9,.tmp 10],
  .q [.v 4 0,.op 8 (.alloc [.nils 1,.nils 2,.i 0,.F,.nils 7,.i 0,.nils 3,.i 0,.i 0,.i 0]),.i 9 0,.F 10]
 (.seq (.q [.L 14 10 4,.c 15 33 [14],.N 16 15,.m 17 16,.z 17 (.m 18 1),.z 17 (.m 19 2),.z 17 (.c 20 47 [18,19]),.z 17 (.N 21 20),.r 22 17 21]
 (.c 22 (.q [.L 23 10 4,.c 24 35 [23],.s 100001 10 8 24,.i 9 1,.F 10]
 .ret)))
 (.q [.L 26 10 4,.m 27 1,.m 28 2,.c 29 48 [26,27,28],.m 25 29,.e 30 25 0,.e 31 25 1,.m 11 30,.m 12 31]
 (.seq (.q [.m 32 12]
 (.c 32 (.q [.L 33 10 4,.c 34 35 [33],.m 35 11,.s 100002 10 8 34,.m 9 35,.F 10]
 .ret)))
 (.q [.L 37 10 4,.m 38 3,.c 39 49 [37,38],.m 36 39,.e 40 36 0,.e 41 36 1,.op 13 (.alloc [.i 0,.e,.i 0,.nils 1,.i 0,.nils 1,.i 0,.F,.e,.i 0,.i 0,.i 0,.i 0]),.s 100003 13 13 40,.m 11 41]
 (.q [.L 42 10 4,.m 43 1,.m 44 2,.L 45 13 13,.m 46 11,.c 47 50 [42,43,44,45,46],.e 48 47 0,.e 49 47 1,.e 50 47 2,.s 100004 10 8 48,.m 9 49,.m 10 50]
 .ret)))))⟩
theorem r_i_NodeDel {Te:TE} (c_i_isUp:C_i_isUp Te) (c_i_mayAsk:C_i_mayAsk Te) (c_i_copyNode:C_i_copyNode Te) (c_i_askedBefore:C_i_askedBefore Te) (c_i_delRec:C_i_delRec Te) (c_i_change:C_i_change Te):C_i_NodeDel (RF Te x_i_NodeDel):=by
 intro n who seq key hn hk
 have hL:=hn.len (by decide)
 refine X0 x_i_NodeDel.eq_1 ?_
 refine C0 (c_i_isUp n (hn.mono (by decide))) ?_
 cases g1:n.up
 ·have e:n.del who seq key=(n,1,false):=by rw [NodeV.del,old_no (by rw [g1]; rfl)]; rfl
  refine G0 ?_
  exact D1 (c_i_copyNode n hL) e
 refine G0 ?_
 refine C0 (c_i_mayAsk _ _) ?_
 cases g2:(win who 1 9&&win seq 1 65535)
 ·have e:n.del who seq key=(n,1,false):=by rw [NodeV.del,old_no (by rw [g1,g2]; rfl)]; rfl
  refine G1 g2 ?_
  exact D1 (c_i_copyNode n hL) e
 have eo:=old_yes g1 g2
 refine G1 g2 ?_
 refine .of (c_i_askedBefore n _ _ (by have:=hn.2.2; omega)) ?_
 try simp -implicitDefEqProofs (maxSteps:=1000000) only [go_sem]
 repeat refine ⟨sc,?_⟩
 try exact sf
 rw [← eo]
 cases g3:(n.old who seq).2
 rotate_left
 ·have e:n.del who seq key=(n,(n.old who seq).1,false):=by rw [NodeV.del,g3]; rfl
  refine G1 g3 ?_
  exact D1 (c_i_copyNode n hL) e
 have e:n.del who seq key=n.changed ((delRec (n.delCode key) key).by who seq (n.delCode key)):=by rw [NodeV.del,g3,delRec_by]; rfl
 refine G1 g3 ?_
 refine C0 (c_i_delRec n key (by have:=hn.2.1.1; omega) (by omega)) ?_
 exact D1 (c_i_change n who seq (delRec (n.delCode key) key) (n.delCode key) hn (delRec_in _ hk)) e
def x_i_NodePhase:FnX:=⟨33,[.cell 4 (some 10),.tmp 5],
  .q [.v 2 0,.op 4 (.alloc [.nils 1,.nils 2,.i 0,.F,.nils 7,.i 0,.nils 3,.i 0,.i 0,.i 0]),.F 5]
 (.q [.L 7 10 2,.c 8 35 [7],.op 6 (.alloc [.nils 1,.nils 2,.i 0,.F,.nils 7,.i 0,.nils 3,.i 0,.i 0,.i 0]),.s 100001 10 6 8]
 (.seq (.q [.L 9 10 2,.c 10 33 [9],.N 11 10]
 (.c 11 (.q [.L 12 10 6,.s 100002 10 4 12,.F 5]
 .ret)))
 (.seq (.q [.f 13 2 0,.f 14 13 4,.f 15 14 1,.l 16 15,.m 17 1,.c 18 43 [16,17]]
 (.c 18 (.reg [.L 20 10 2,.m 21 1,.op 22 (.build [.i 0,.e,.i 0,.nils 1,.i 0,.nils 1,.i 0,.F,.e,.i 0,.i 0,.i 0,.i 0] [(0,1,(.i 3)),(9,1,(.t 21))]),.c 23 38 [20,22],.m 19 23,.e 24 19 0,.e 25 19 1,.s 100003 10 6 24])))
 (.seq (.draw [.L 26 10 6,.f 27 6 0,.f 28 27 4,.f 29 28 1,.l 30 29,.m 31 1,.b 32 .eql 30 31,.s 100004 10 4 26,.m 5 32] [[],[],[1],[2],[3],[],[4,5],[0,0],[6,7,0,1,2,3,4,5,6,7]])
 .ret))))⟩
theorem r_i_NodePhase {Te:TE} (c_i_copyNode:C_i_copyNode Te) (c_i_isUp:C_i_isUp Te) (c_i_NextOk:C_i_NextOk Te) (c_i_added:C_i_added Te):C_i_NodePhase (RF Te x_i_NodePhase):=by
 intro n p hn
 have hL:=hn.len (by decide)
 refine X0 x_i_NodePhase.eq_1 ?_
 refine C0 (c_i_copyNode n hL) ?_
 refine C0 (c_i_isUp n (hn.mono (by decide))) ?_
 cases g1:n.up
 ·have e:n.phase p=(n,false):=by rw [NodeV.phase,g1]; rfl
  exact F1 e
 have e:n.phase p=(n.phase1 p,(n.phase1 p).S.T.Phase==p):=by rw [NodeV.phase,g1]; rfl
 refine G0 ?_
 refine C0 (c_i_NextOk _ _) ?_
 cases g2:nextOk n.S.T.Phase p
 ·have e1:n.phase1 p=n:=by rw [NodeV.phase1,g2]; rfl
  exact F2 e e1
 ·have e1:n.phase1 p=n.added (recPh p):=by rw [NodeV.phase1,g2]; rfl
  refine G0 ?_
  refine .of (c_i_added n (recPh p) hn (recPh_in p _)) ?_
  try simp -implicitDefEqProofs (maxSteps:=1000000) only [go_sem,e,e1,NodeV.added,take_all,take_marks]
  repeat refine ⟨sc,?_⟩
  try exact sf
  try rfl
def x_s_l12Copy:FnX:=⟨31,[.cell 2 (some 3)],
  .q [.v 1 0,.op 2 (.alloc [.nils 7,.i 0,.nils 3])]
 (.seq (.draw [.f 5 1 1,.l 6 5,.op 7 (.bslice 3 []),.f 8 1 2,.l 9 8,.op 10 (.app 3 24 (.t 7) (.t 9)),.op 11 (.build [.nils 7,.i 0,.nils 3] [(1,1,(.t 6)),(2,1,(.t 10))]),.op 3 (.alloc [.nils 7,.i 0,.nils 3]),.s 100001 3 3 11] [[],[0],[],[],[3],[2,4],[1,5],[],[7,6,5,0,1,2,3,4,5,6,7]])
 (.seq (.q [.i 4 0]
 (.up 3 0 300000 (.block 0 (.loop [1,2,3,4] (.seq (.q [.m 12 4,.f 13 1 0,.l 14 13,.n 15 14,.b 16 .lss 12 15]
 (.cond 16 .skip (.exit 0)))
 (.seq (.block 1 (.draw [.f 19 3 0,.l 20 19,.f 21 1 0,.l 22 21,.m 23 4,.x 24 7 22 23,.L 25 7 24,.c 26 159 [25],.op 27 (.bslice 7 [(.t 26)]),.op 28 (.app 7 96 (.t 20) (.t 27)),.f 29 3 0,.s 100002 1 29 28] [[],[0],[],[2],[],[3,4],[5],[6],[7],[1,8,7],[0,1,2,3,4,5,6,7,8,9],[10,9,9,0,1,2,3,4,5,6,7,8,9]]))
 (.reg [.m 17 4,.B 18 .add 17 1,.m 4 18])))))))
 (.norm [2,3] (.q [.L 30 3 3,.s 100003 3 2 30]
 .ret))))⟩
theorem r_s_l12Copy {Te:TE} (c_s_l9Copy:C_s_l9Copy Te):C_s_l12Copy (RF Te x_s_l12Copy):=by
 intro t h
 obtain ⟨⟨hR,hRl⟩,hM⟩:=h
 refine X0 x_s_l12Copy.eq_1 ?_
 refine loop_of (σ:=Nat×List RowV) (fun x=>⟨[(1,.bp 1 0),(2,.bp 2 0),(3,.bp 3 0),(4,.one (.pv (.int .i64 x.1)))],[(1,[.ro 7 (t.Rows.map (RowV.enc false)),.pv (.int .i64 t.Phase),.ro 3 (t.Marks.map MarkV.row)]),(2,[.nils 7,.pv (.int .i64 0),.nils 3]),(3,[.rf 32 0 [] 7 0 x.2.length,.pv (.int .i64 t.Phase),.rf 33 0 [] 3 0 t.Marks.length])],[(0,t.enc false),(32,[slT true 7 (RowV.enc true) x.2]),(33,[slT true 3 MarkV.row t.Marks])]⟩) (fun x=>x.1≤t.Rows.length∧x.2=t.Rows.take x.1) (fun x=>t.Rows.length - x.1) (0,[]) ?_ ⟨Nat.zero_le _,rfl⟩ ?_
 ·simp -implicitDefEqProofs (maxSteps:=1000000) only [go_sem]
  try rfl
 ·rintro ⟨i,l⟩ ⟨hi,he⟩
  simp only at hi he
  have hl:l.length=i:=by rw [he,List.length_take]; omega
  cases q:decide ((i:Int) < (t.Rows.length:Int))
  ·have k0:i=t.Rows.length:=by simp only [decide_eq_false_iff_not] at q; omega
   rw [k0,List.take_length] at he
   subst he
   exact F1 q
  ·have k1:i < t.Rows.length:=by simp only [decide_eq_true_eq] at q; omega
   have ea:=app1Rw l t.Rows[i]
   refine G2 q (List.getElem?_eq_getElem k1) ?_
   refine C1 (c_s_l9Copy t.Rows[i] (hRl _ (List.getElem_mem k1))) ea ?_
   refine ⟨(i + 1,l++[t.Rows[i]]),?_,⟨k1,by rw [he,List.take_succ_eq_append_getElem k1]⟩,by simp only; omega⟩
   rw [IntWalk.i64_in _ (by omega)]
   simp only [List.length_append]
   rfl
def x_i_copyStore:FnX:=⟨14,[.cell 2 (some 9)],
  .q [.v 1 0,.op 2 (.alloc [.nils 1,.nils 2,.i 0,.F,.nils 7,.i 0,.nils 3,.i 0,.i 0])]
 (.seq (.draw [.f 3 1 0,.L 4 4 3,.c 5 130 [4],.f 6 1 4,.L 7 3 6,.c 8 131 [7],.f 9 1 7,.l 10 9,.f 11 1 8,.l 12 11,.op 13 (.build [.nils 1,.nils 2,.i 0,.F,.nils 7,.i 0,.nils 3,.i 0,.i 0] [(0,4,(.t 5)),(4,3,(.t 8)),(7,1,(.t 10)),(8,1,(.t 12))]),.s 100001 9 2 13] [[],[0],[1],[],[3],[4,2],[],[6],[],[8],[2,5,7,9],[10,5,0,1,2,3,4,5,6,7,8,9,10]])
 .ret)⟩
theorem r_i_copyStore {Te:TE} (c_i_copyDev:C_i_copyDev Te) (c_i_copyTab:C_i_copyTab Te):C_i_copyStore (RF Te x_i_copyStore):=by
 intro s h
 refine X0 x_i_copyStore.eq_1 ?_
 refine C0 (c_i_copyDev s.D h.1) ?_
 exact D0 (c_i_copyTab s.T h.2)
def x_s_l13Copy:FnX:=⟨14,[.cell 2 (some 9)],
  .q [.v 1 0,.op 2 (.alloc [.nils 1,.nils 2,.i 0,.F,.nils 7,.i 0,.nils 3,.i 0,.i 0])]
 (.seq (.draw [.f 3 1 0,.L 4 4 3,.c 5 106 [4],.f 6 1 4,.L 7 3 6,.c 8 107 [7],.f 9 1 7,.l 10 9,.f 11 1 8,.l 12 11,.op 13 (.build [.nils 1,.nils 2,.i 0,.F,.nils 7,.i 0,.nils 3,.i 0,.i 0] [(0,4,(.t 5)),(4,3,(.t 8)),(7,1,(.t 10)),(8,1,(.t 12))]),.s 100001 9 2 13] [[],[0],[1],[],[3],[4,2],[],[6],[],[8],[2,5,7,9],[10,5,0,1,2,3,4,5,6,7,8,9,10]])
 .ret)⟩
theorem r_s_l13Copy {Te:TE} (c_s_l10Copy:C_s_l10Copy Te) (c_s_l12Copy:C_s_l12Copy Te):C_s_l13Copy (RF Te x_s_l13Copy):=by
 intro s h
 refine X0 x_s_l13Copy.eq_1 ?_
 refine C0 (c_s_l10Copy s.D h.1) ?_
 exact D0 (c_s_l12Copy s.T h.2)
def x_i_copyNode:FnX:=⟨9,[.cell 2 (some 10)],
  .q [.v 1 0,.op 2 (.alloc [.nils 1,.nils 2,.i 0,.F,.nils 7,.i 0,.nils 3,.i 0,.i 0,.i 0])]
 (.seq (.draw [.f 3 1 0,.L 4 9 3,.c 5 78 [4],.f 6 1 9,.l 7 6,.op 8 (.build [.nils 1,.nils 2,.i 0,.F,.nils 7,.i 0,.nils 3,.i 0,.i 0,.i 0] [(0,9,(.t 5)),(9,1,(.t 7))]),.s 100001 10 2 8] [[],[0],[1],[],[3],[2,4],[5,2,0,1,2,3,4,5]])
 .ret)⟩
theorem r_i_copyNode {Te:TE} (c_i_copyStore:C_i_copyStore Te):C_i_copyNode (RF Te x_i_copyNode):=by
 intro n h
 refine X0 x_i_copyNode.eq_1 ?_
 exact D0 (c_i_copyStore n.S h)
def x_s_l15Copy:FnX:=⟨9,[.cell 2 (some 10)],
  .q [.v 1 0,.op 2 (.alloc [.nils 1,.nils 2,.i 0,.F,.nils 7,.i 0,.nils 3,.i 0,.i 0,.i 0])]
 (.seq (.draw [.f 3 1 0,.L 4 9 3,.c 5 62 [4],.f 6 1 9,.l 7 6,.op 8 (.build [.nils 1,.nils 2,.i 0,.F,.nils 7,.i 0,.nils 3,.i 0,.i 0,.i 0] [(0,9,(.t 5)),(9,1,(.t 7))]),.s 100001 10 2 8] [[],[0],[1],[],[3],[2,4],[5,2,0,1,2,3,4,5]])
 .ret)⟩
theorem r_s_l15Copy {Te:TE} (c_s_l13Copy:C_s_l13Copy Te):C_s_l15Copy (RF Te x_s_l15Copy):=by
 intro n h
 refine X0 x_s_l15Copy.eq_1 ?_
 exact D0 (c_s_l13Copy n.S h)
def x_s_Signs:FnX:=⟨33,[.tmp 2,.tmp 3],
  .q [.op 2 (.mv (.k (.one (.nils 1)))),.F 3]
 (.q [.op 10 (.bslice 1 []),.m 4 10]
 (.q [.m 11 0,.op 12 (.conv .s2b (.t 11)),.m 5 12]
 (.seq (.q [.i 6 0]
 (.block 0 (.loop [4,5,6] (.seq (.q [.m 13 6,.m 14 5,.n 15 14,.b 16 .lss 13 15]
 (.cond 16 .skip (.exit 0)))
 (.block 1 (.q [.m 18 5,.m 19 6,.c 20 109 [18,19],.m 17 20,.e 21 17 0,.e 22 17 1,.e 23 17 2,.m 7 21,.m 8 22,.m 9 23]
 (.seq (.q [.m 24 9,.N 25 24]
 (.c 25 (.q [.op 26 (.bslice 1 []),.m 2 26,.F 3]
 .ret)))
 (.q [.m 27 4,.m 28 7,.op 29 (.bslice 1 [(.t 28)]),.op 30 (.app 1 8 (.t 27) (.t 29)),.m 4 30]
 (.reg [.m 31 8,.m 6 31])))))))))
 (.norm [4] (.q [.m 32 4,.m 2 32,.T 3]
 .ret)))))⟩
theorem r_s_Signs {Te:TE} (c_s_GetSign:C_s_GetSign Te):C_s_Signs (RF Te x_s_Signs):=by
 intro s hs
 have hsz:=sizeL s
 refine X0 x_s_Signs.eq_1 ?_
 generalize eB:s.data.toList=B at hsz
 have eS:signsOf s=if Lib.validD B=true then (signs B,true) else ([],false):=by rw [signsOf,eB]
 refine loop_of (σ:=Nat×List Int) (fun x=>⟨[(4,.one (.rf 34 0 [] 1 0 x.2.length)),(5,.one (.rf 35 0 [] 1 0 B.length)),(6,.one (.pv (.int .i64 x.1)))],[],[(0,[sT s]),(34,[slT true 1 iR x.2]),(35,[slT true 1 uR B])]⟩) (fun x=>x.1≤B.length∧x.2.length≤x.1∧x.2++signs (B.drop x.1)=signs B∧Lib.validD (B.drop x.1)=Lib.validD B) (fun x=>B.length - x.1) (0,[]) ?_ ⟨Nat.zero_le _,Nat.le_refl _,rfl,rfl⟩ ?_
 ·simp -implicitDefEqProofs (maxSteps:=1000000) only [go_sem,ofBytes,byteT,eB]
  try rfl
 ·rintro ⟨p,acc⟩ ⟨hp,hl,ha,hv⟩
  simp only at hp hl ha hv
  cases q:decide ((p:Int) < (B.length:Int))
  ·have hd:B.drop p=[]:=List.drop_eq_nil_of_le (by simp only [decide_eq_false_iff_not] at q; omega)
   rw [hd,signs_nil,List.append_nil] at ha
   rw [hd,Lib.validD_nil] at hv
   rw [← hv,if_pos rfl,← ha] at eS
   have ea:List.take acc.length (List.map iR acc)=List.map iR acc:=take_map iR acc
   exact F3 q eS ea
  ·have k1:p < B.length:=by simp only [decide_eq_true_eq] at q; omega
   have hne:B.drop p≠[]:=by
    intro e
    have:=congrArg List.length e
    simp only [List.length_drop,List.length_nil] at this
    omega
   have hw:=Lib.decodeL_width (B.drop p)
   have hc:=decodeL_bound (B.drop p)
   have hle:=Lib.decodeL_le _ hne
   rw [List.length_drop] at hle
   rw [signs_step hne,List.drop_drop] at ha
   rw [Lib.validD_step _ hne,List.drop_drop] at hv
   have eg:getSign B p=match signAt (B.drop p) with | some d=>((d.1:Int),(p:Int) + (d.2:Nat),true) | none=>(0,0,false):=by
    rw [getSign,if_pos (by omega)]; rfl
   refine G1 q ?_
   refine C0 (c_s_GetSign B p (by omega)) ?_
   by_cases hb:(Lib.decodeL (B.drop p)).1=65533∧(Lib.decodeL (B.drop p)).2=1
   ·rw [signAt,if_pos hb] at eg
    rw [if_pos hb] at hv
    rw [← hv] at eS
    exact F2 eg eS
   ·rw [signAt,if_neg hb] at eg
    rw [if_neg hb] at hv
    generalize Lib.decodeL (B.drop p)=d at hw hc hle ha hv eg
    have ea:List.take acc.length (List.map iR acc)=List.map iR acc:=take_map iR acc
    have eb:List.map iR acc++[[Tr.pv (Value.int .i64 ((d.1:Nat):Int))]]=List.map iR (acc++[((d.1:Nat):Int)]):=by simp
    refine G3 eg ea eb ?_
    refine ⟨(p + d.2,acc++[((d.1:Nat):Int)]),?_,⟨by omega,by simp only [List.length_append,List.length_cons,List.length_nil]; omega,by rw [← ha]; simp,hv⟩,by simp only; omega⟩
    simp only [List.length_append]
    rfl
def x_i_putIn:FnX:=⟨37,[.tmp 6,.tmp 7],
  .q [.op 6 (.mv (.k (.one (.nils 1)))),.F 7]
 (.seq (.q [.m 10 0]
 (.block 0 (.q [.B 12 .eql 10 0,.m 11 12]
 (.cond 11 (.q [.m 13 1,.m 14 2,.c 15 81 [13,14],.m 6 15,.T 7]
 .ret) (.q [.B 17 .eql 10 5,.m 16 17]
 (.c 16 (.q [.m 18 1,.m 19 2,.c 20 234 [18,19],.e 21 20 0,.e 22 20 1,.m 6 21,.m 7 22]
 .ret)))))))
 (.q [.m 24 0,.m 25 2,.c 26 235 [24,25],.m 23 26,.e 27 23 0,.e 28 23 1,.m 8 27,.m 9 28]
 (.seq (.q [.m 29 9,.N 30 29]
 (.c 30 (.q [.m 31 1,.m 6 31,.F 7]
 .ret)))
 (.q [.m 32 1,.m 33 8,.op 34 (.conv (.int .u8) (.t 33)),.op 35 (.bslice 1 [(.t 34)]),.op 36 (.app 1 1 (.t 32) (.t 35)),.m 6 36,.T 7]
 .ret))))⟩
theorem r_i_putIn {Te:TE} (c_i_PutSign:C_i_PutSign Te) (c_i_PutEuc:C_i_PutEuc Te) (c_i_SignByte:C_i_SignByte Te):C_i_putIn (RF Te x_i_putIn):=by
 intro cs b n hb
 refine X0 x_i_putIn.eq_1 ?_
 cases h:(cs==0)
 ·cases h5:(cs==5)
  ·have el:putLeft cs b n = .no ():=by rw [putLeft,h,h5]; rfl
   refine G2 h h5 ?_
   refine C0 (c_i_SignByte _ _) ?_
   cases g:(signByte cs n).2
   ·have e:=putIn_no h h5 g b
    exact F3 g e el
   ·have e:=putIn_yes h h5 g b
    try simp -implicitDefEqProofs (maxSteps:=1000000) only [go_sem,g,mkU_wrap,app1B,take1B,e,el,take_rows]
    repeat refine ⟨sc,?_⟩
    try exact sf
    try rfl
  ·have el:putLeft cs b n=slT true 1 uR b:=by rw [putLeft,h,h5]; rfl
   have e:=putIn_euc h h5 b n
   refine G2 h h5 ?_
   exact D2 (c_i_PutEuc b n hb) e el
 ·have el:putLeft cs b n=slT true 1 uR b:=by rw [putLeft,h]; rfl
  have e:=putIn_utf h b n
  refine G1 h ?_
  exact D2 (c_i_PutSign b n hb) e el
def x_s_l5Put:FnX:=⟨43,[.tmp 6,.tmp 7],
  .q [.op 6 (.mv (.k (.one (.nils 1)))),.F 7]
 (.seq (.q [.m 10 0]
 (.block 0 (.q [.B 12 .eql 10 0,.m 11 12]
 (.cond 11 (.q [.m 13 1,.m 14 2,.c 15 67 [13,14],.m 16 2,.c 17 112 [16],.m 6 15,.m 7 17]
 .ret) (.q [.B 19 .eql 10 5,.m 18 19]
 (.c 18 (.q [.m 20 1,.m 21 2,.c 22 228 [20,21],.e 23 22 0,.e 24 22 1,.m 6 23,.m 7 24]
 .ret)))))))
 (.q [.m 26 0,.m 27 2,.c 28 229 [26,27],.m 25 28,.e 29 25 0,.e 30 25 1,.m 8 29,.m 9 30]
 (.seq (.q [.m 31 9,.N 32 31]
 (.c 32 (.q [.op 33 (.bslice 1 []),.m 34 1,.op 35 (.app 1 1 (.t 33) (.t 34)),.m 6 35,.F 7]
 .ret)))
 (.q [.op 36 (.bslice 1 []),.m 37 1,.op 38 (.app 1 1 (.t 36) (.t 37)),.m 39 8,.op 40 (.conv (.int .u8) (.t 39)),.op 41 (.bslice 1 [(.t 40)]),.op 42 (.app 1 1 (.t 38) (.t 41)),.m 6 42,.T 7]
 .ret))))⟩
theorem r_s_l5Put {Te:TE} (c_s_PutSign:C_s_PutSign Te) (c_s_SignOk:C_s_SignOk Te) (c_s_PutEuc:C_s_PutEuc Te) (c_s_SignByte:C_s_SignByte Te):C_s_l5Put (RF Te x_s_l5Put):=by
 intro cs b n hb hn
 refine X0 x_s_l5Put.eq_1 ?_
 cases h:(cs==0)
 ·cases h5:(cs==5)
  ·refine G2 h h5 ?_
   refine C0 (c_s_SignByte _ _) ?_
   cases g:(signByte cs n).2
   ·have e:=putIn_no h h5 g b
    exact F2 g e
   ·have e:=putIn_yes h h5 g b
    try simp -implicitDefEqProofs (maxSteps:=1000000) only [go_sem,g,mkU_wrap,app1B,take1B,e,take_rows]
    repeat refine ⟨sc,?_⟩
    try exact sf
    try rfl
  ·have e:=putIn_euc h h5 b n
   refine G2 h h5 ?_
   exact D1 (c_s_PutEuc b n hb) e
 ·have e:=putIn_utf h b n
  refine G1 h ?_
  refine C0 (c_s_PutSign b n hb) ?_
  exact D2 (c_s_SignOk n) hn e
def x_l_eqWrS:FnX:=⟨27,[.tmp 4],
  .q [.F 4]
 (.seq (.q [.m 6 0,.n 7 6,.m 8 1,.n 9 8,.b 10 .neq 7 9]
 (.c 10 (.q [.F 4]
 .ret)))
 (.seq (.q [.i 5 0]
 (.block 0 (.loop [0,1,5] (.seq (.q [.m 11 5,.m 12 0,.n 13 12,.b 14 .lss 11 13]
 (.cond 14 .skip (.exit 0)))
 (.seq (.block 1 (.seq (.draw [.m 17 0,.m 18 5,.x 19 2 17 18,.L 20 2 19,.m 21 1,.m 22 5,.x 23 2 21 22,.L 24 2 23,.c 25 205 [20,24],.N 26 25] [[],[],[0,1],[2],[],[],[4,5],[6],[3,7],[8]])
 (.c 26 (.q [.F 4]
 .ret))))
 (.reg [.m 15 5,.B 16 .add 15 1,.m 5 16]))))))
 (.norm [] (.q [.T 4]
 .ret))))⟩
theorem r_l_eqWrS {Te:TE} (c_l_eqWr:C_l_eqWr Te):C_l_eqWrS (RF Te x_l_eqWrS):=by
 intro l m hl
 refine run0 ?_
 have hl1:=hl.1
 simp -implicitDefEqProofs (maxSteps:=1000000) (disch:=omega) only [x_l_eqWrS,go_sem,IntWalk.i64_in]
 refine ⟨fun h=>?_,fun h=>?_⟩
 ·have:l≠m:=fun e=>by simp [e] at h
  simp [this]
 ·have hlen:l.length=m.length:=by simp at h; omega
  refine loop_of (σ:=Nat) (fun i=>⟨[(0,.one (.ro 2 (l.map (WrV.enc false)))),(1,.one (.ro 2 (m.map (WrV.enc false)))),(5,.one (.pv (.int .i64 i)))],[],[(0,[slT false 2 (WrV.enc false) l]),(1,[slT false 2 (WrV.enc false) m])]⟩) (fun i=>i≤l.length∧l.take i=m.take i) (fun i=>l.length - i) 0 ?_ ⟨Nat.zero_le _,by simp⟩ ?_
  ·simp -implicitDefEqProofs (maxSteps:=1000000) only [go_sem]; rfl
  ·intro i ⟨hi,hs⟩
   simp -implicitDefEqProofs (maxSteps:=1000000) only [go_sem]
   refine ⟨fun h=>?_,fun h=>?_⟩
   ·have hi':i < l.length:=by simp only [decide_eq_true_eq] at h; omega
    have hj':i < m.length:=by omega
    simp -implicitDefEqProofs (maxSteps:=1000000) only [go_sem,List.getElem?_eq_getElem hi',List.getElem?_eq_getElem hj']
    refine .of (c_l_eqWr _ _ (hl.2 _ (List.getElem_mem hi'))) ?_
    simp -implicitDefEqProofs (maxSteps:=1000000) only [go_sem]
    refine ⟨by decide,fun h2=>?_,fun h2=>?_⟩
    ·have:l≠m:=fun e=>by subst e; simp at h2
     simp [this]
    ·refine ⟨i + 1,by rw [IntWalk.i64_in _ (by omega)]; rfl,⟨hi',same_step hi' hj' hs ?_⟩,by omega⟩
     simpa using h2
   ·have hle:l.length≤i:=by simp only [decide_eq_false_iff_not] at h; omega
    have:l=m:=same_end hle (by omega) hs
    simp [this]
def x_l_markWrS:FnX:=⟨27,[.tmp 4],
  .q [.i 4 0]
 (.seq (.q [.i 5 0]
 (.block 0 (.loop [0,1,5] (.seq (.q [.m 6 5,.m 7 0,.n 8 7,.b 9 .lss 6 8]
 (.cond 9 .skip (.exit 0)))
 (.seq (.block 1 (.q [.m 12 0,.m 13 5,.m 14 1,.x 15 2 12 13,.f 16 15 0,.s 100001 1 16 14]
 (.q [.m 17 1,.B 18 .add 17 1,.m 1 18]
 (.reg [.m 19 0,.m 20 5,.x 21 2 19 20,.f 22 21 1,.l 23 22,.m 24 1,.op 25 (.io 16 (.t 23) [(.t 24)]),.m 1 25]))))
 (.reg [.m 10 5,.B 11 .add 10 1,.m 5 11]))))))
 (.norm [1] (.q [.m 26 1,.m 4 26]
 .ret)))⟩
theorem r_l_markWrS {Te:TE} (c_l_markByteS:C_l_markByteS Te):C_l_markWrS (RF Te x_l_markWrS):=by
 intro l k hl hk
 refine run0 ?_
 have hl1:=hl.1
 simp -implicitDefEqProofs (maxSteps:=1000000) (disch:=omega) only [x_l_markWrS,go_sem,IntWalk.i64_in]
 refine loop_of (σ:=Nat) (fun i=>⟨[(0,.one (.rf 0 0 [] 2 0 l.length)),(1,.one (.pv (.int .i64 (farL WrV.farE (l.take i) k)))),(5,.one (.pv (.int .i64 i)))],[],[(0,[.sl true 2 () ((markL WrV.markE WrV.farE (l.take i) k).map (WrV.enc true)++(l.drop i).map (WrV.enc true))]),(1,[iT k])]⟩) (fun i=>i≤l.length) (fun i=>l.length - i) 0 ?_ (Nat.zero_le _) ?_
 ·simp -implicitDefEqProofs (maxSteps:=1000000) only [go_sem]; simp [markL,farL]
 ·intro i hi
  simp -implicitDefEqProofs (maxSteps:=1000000) only [go_sem]
  refine ⟨fun h=>?_,fun h=>?_⟩
  ·have hi':i < l.length:=by simp only [decide_eq_true_eq] at h; omega
   have hb:k≤farL WrV.farE (l.take i) k∧farL WrV.farE (l.take i) k≤k + 4398048608256:=by
    have q:=farL_le (n:=2 ^ 21) (k:=k) (c:=2097153) (l:=l.take i) ⟨by rw [List.length_take]; omega,fun y hy=>hl.2 y (List.mem_of_mem_take hy)⟩ (fun y hy k=>WrV.farE_le hy k)
    omega
   have he:=hl.2 _ (List.getElem_mem hi')
   have hset:=markL_set (WrV.enc true) WrV.markE WrV.farE l k hi'
   have hnext:=farL_take WrV.farE l k hi'
   have e0:l[i].B.length≤2 ^ 21:=he
   generalize farL WrV.farE (l.take i) k=j at hb hset hnext ⊢
   try simp -implicitDefEqProofs (maxSteps:=1000000) (disch:=omega) only [go_sem,storeAp,setCells,List.length_set,List.set_set,markL_len (WrV.enc true) WrV.markE WrV.farE l k hi,List.getD_eq_getElem?_getD,markL_at (WrV.enc true) WrV.markE WrV.farE l k hi',markL_reat (WrV.enc true) WrV.markE WrV.farE l k hi',Option.getD_some,IntWalk.i64_in]
   repeat (first | refine ⟨by decide,?_⟩ | refine ⟨decide_eq_true hi',?_⟩)
   refine .of (c_l_markByteS (l[i].B) _ (by omega) (by omega)) ?_
   simp -implicitDefEqProofs (maxSteps:=1000000) (disch:=omega) only [go_sem,storeAp,setCells,List.length_set,List.set_set,markL_len (WrV.enc true) WrV.markE WrV.farE l k hi,List.getD_eq_getElem?_getD,markL_at (WrV.enc true) WrV.markE WrV.farE l k hi',markL_reat (WrV.enc true) WrV.markE WrV.farE l k hi',Option.getD_some,IntWalk.i64_in]
   repeat (first | refine ⟨by decide,?_⟩ | refine ⟨decide_eq_true hi',?_⟩)
   refine ⟨i + 1,?_,hi',by omega⟩
   rw [hnext,← hset]
   rfl
  ·have:i=l.length:=by simp only [decide_eq_false_iff_not] at h; omega
   subst this
   simp -implicitDefEqProofs (maxSteps:=1000000) only [go_sem,List.take_length,List.drop_length,List.map_nil,List.append_nil]
def x_l_heldWrS:FnX:=⟨31,[.tmp 4],
  .q [.i 4 0]
 (.seq (.q [.i 5 0]
 (.block 0 (.loop [0,1,5] (.seq (.q [.m 6 5,.m 7 0,.n 8 7,.b 9 .lss 6 8]
 (.cond 9 .skip (.exit 0)))
 (.seq (.block 1 (.seq (.q [.m 12 0,.m 13 5,.x 14 2 12 13,.f 15 14 0,.l 16 15,.m 17 1,.b 18 .neq 16 17]
 (.c 18 (.q [.i 4 (-1)]
 .ret)))
 (.q [.m 19 1,.B 20 .add 19 1,.m 1 20]
 (.q [.m 21 0,.m 22 5,.x 23 2 21 22,.f 24 23 1,.l 25 24,.m 26 1,.c 27 209 [25,26],.m 1 27]
 (.q [.m 28 1,.B 29 .lss 28 0]
 (.c 29 (.q [.i 4 (-1)]
 .ret)))))))
 (.reg [.m 10 5,.B 11 .add 10 1,.m 5 11]))))))
 (.norm [1] (.q [.m 30 1,.m 4 30]
 .ret)))⟩
theorem r_l_heldWrS {Te:TE} (c_l_heldByteS:C_l_heldByteS Te):C_l_heldWrS (RF Te x_l_heldWrS):=by
 intro l k hl hk
 refine run0 ?_
 have hl1:=hl.1
 simp -implicitDefEqProofs (maxSteps:=1000000) (disch:=omega) only [x_l_heldWrS,go_sem,IntWalk.i64_in]
 refine loop_of (σ:=Nat) (fun i=>⟨[(0,.one (.ro 2 ((markL WrV.markE WrV.farE l k).map (WrV.enc false)))),(1,.one (.pv (.int .i64 (farL WrV.farE (l.take i) k)))),(5,.one (.pv (.int .i64 i)))],[],[(0,[slT false 2 (WrV.enc false) (markL WrV.markE WrV.farE l k)]),(1,[iT k])]⟩) (fun i=>i≤l.length) (fun i=>l.length - i) 0 ?_ (Nat.zero_le _) ?_
 ·simp -implicitDefEqProofs (maxSteps:=1000000) only [go_sem]; simp [farL]
 ·intro i hi
  simp -implicitDefEqProofs (maxSteps:=1000000) only [go_sem,markL_length]
  refine ⟨fun h=>?_,fun h=>?_⟩
  ·have hi':i < l.length:=by simp only [decide_eq_true_eq] at h; omega
   have hb:k≤farL WrV.farE (l.take i) k∧farL WrV.farE (l.take i) k≤k + 4398048608256:=by
    have q:=farL_le (n:=2 ^ 21) (k:=k) (c:=2097153) (l:=l.take i) ⟨by rw [List.length_take]; omega,fun y hy=>hl.2 y (List.mem_of_mem_take hy)⟩ (fun y hy k=>WrV.farE_le hy k)
    omega
   have he:=hl.2 _ (List.getElem_mem hi')
   have hget:=markL_get WrV.markE WrV.farE l k hi'
   have hnext:=farL_take WrV.farE l k hi'
   have e0:l[i].B.length≤2 ^ 21:=he
   generalize farL WrV.farE (l.take i) k=j at hb hget hnext ⊢
   simp only [WrV.markE] at hget
   try simp -implicitDefEqProofs (maxSteps:=1000000) (disch:=omega) only [go_sem,hget,IntWalk.i64_in,mkB,bne_self_eq_false,decide_true,Bool.not_true]
   repeat (refine ⟨by decide,?_⟩)
   refine .of (c_l_heldByteS (l[i].B.length) _ (by omega) (by omega)) ?_
   simp -implicitDefEqProofs (maxSteps:=1000000) (disch:=omega) only [go_sem,hget,IntWalk.i64_in,mkB,bne_self_eq_false,decide_true,Bool.not_true]
   refine ⟨fun q=>by simp only [decide_eq_true_eq] at q; omega,fun _=>?_⟩
   try simp -implicitDefEqProofs (maxSteps:=1000000) (disch:=omega) only [go_sem,hget,IntWalk.i64_in,mkB,bne_self_eq_false,decide_true,Bool.not_true]
   repeat (refine ⟨by decide,?_⟩)
   refine ⟨i + 1,?_,hi',by omega⟩
   rw [hnext]
   rfl
  ·have:i=l.length:=by simp only [decide_eq_false_iff_not] at h; omega
   subst this
   simp -implicitDefEqProofs (maxSteps:=1000000) only [go_sem,List.take_length]
def x_s_l12Mark:FnX:=⟨16,[.tmp 2],
  .q [.v 1 0,.F 2]
 (.q [.f 3 1 0,.l 4 3,.op 5 (.call 64 [0,0,0] [(.t 4),(.i 1),(.i 9)]),.m 6 5,.y 6 (.f 7 1 1),.y 6 (.l 8 7),.y 6 (.c 9 120 [8]),.a 10 6 9,.m 11 10,.y 11 (.f 12 1 2),.y 11 (.l 13 12),.y 11 (.op 14 (.call 64 [0,0,0] [(.t 13),(.i 0),(.i 6)])),.a 15 11 14,.m 2 15]
 .ret)⟩
theorem r_s_l12Mark {Te:TE} (c_s_l1In:C_s_l1In Te) (c_s_l1Word:C_s_l1Word Te):C_s_l12Mark (RF Te x_s_l12Mark):=by
 intro m
 refine run0 ?_
 simp -implicitDefEqProofs (maxSteps:=1000000) only [x_s_l12Mark,go_sem,MarkV.ok]
 repeat refine ⟨sc,?_⟩
 try exact sf
 refine C0 (c_s_l1In _ _ _) ?_
 cases g1:win m.Who 1 9
 ·exact F1 g1
 refine G1 g1 ?_
 refine C0 (c_s_l1Word _) ?_
 cases g2:win m.Seq 0 65535
 ·exact F1 g2
 refine G1 g2 ?_
 exact D0 (c_s_l1In _ _ _)
def x_i_PutEuc:FnX:=⟨36,[.tmp 4,.tmp 5],
  .q [.op 4 (.mv (.k (.one (.nils 1)))),.F 5]
 (.seq (.q [.m 9 1,.op 10 (.call 77 [0,0,0] [(.t 9),(.i 0),(.i 127)])]
 (.c 10 (.q [.m 11 0,.m 12 1,.op 13 (.conv (.int .u8) (.t 12)),.op 14 (.bslice 1 [(.t 13)]),.op 15 (.bslice 1 [(.t 11),(.t 14)]),.c 16 37 [15],.m 4 16,.T 5]
 .ret)))
 (.q [.m 18 1,.c 19 237 [18],.m 17 19,.e 20 17 0,.e 21 17 1,.e 22 17 2,.m 6 20,.m 7 21,.m 8 22]
 (.seq (.q [.m 23 8,.N 24 23]
 (.c 24 (.q [.m 25 0,.op 26 (.bslice 1 [(.t 25)]),.c 27 37 [26],.m 4 27,.F 5]
 .ret)))
 (.q [.m 28 0,.m 29 6,.op 30 (.conv (.int .u8) (.t 29)),.m 31 7,.op 32 (.conv (.int .u8) (.t 31)),.op 33 (.bslice 1 [(.t 30),(.t 32)]),.op 34 (.bslice 1 [(.t 28),(.t 33)]),.c 35 37 [34],.m 4 35,.T 5]
 .ret))))⟩
theorem r_i_PutEuc {Te:TE} (c_i_within:C_i_within Te) (c_i_joined:C_i_joined Te) (c_i_SignPair:C_i_SignPair Te):C_i_PutEuc (RF Te x_i_PutEuc):=by
 intro b n hb
 refine X0 x_i_PutEuc.eq_1 ?_
 refine C0 (c_i_within _ _ _) ?_
 cases g:win n 0 127
 ·refine G0 ?_
  refine C0 (c_i_SignPair _) ?_
  cases g2:(signPair n).2.2
  ·have e:putEuc b n=(b,false):=by rw [putEuc,g,g2]; rfl
   refine G1 g2 ?_
   refine .of (c_i_joined [b] (by rw [flat1]; omega) (by show 1≤2 ^ 31; decide)) ?_
   try simp -implicitDefEqProofs (maxSteps:=1000000) only [go_sem,flat1,e,take_rows]
   repeat refine ⟨sc,?_⟩
   try exact sf
   try rfl
  ·have e:putEuc b n=(b++[mkU (signPair n).1,mkU (signPair n).2.1],true):=by rw [putEuc,g,g2]; rfl
   try simp -implicitDefEqProofs (maxSteps:=1000000) only [go_sem,g2,mkU_wrap]
   repeat refine ⟨sc,?_⟩
   try exact sf
   refine .of (c_i_joined [b,[mkU (signPair n).1,mkU (signPair n).2.1]] (by rw [flat2,List.length_append]; simp only [List.length_cons,List.length_nil]; omega) (by show 2≤2 ^ 31; decide)) ?_
   try simp -implicitDefEqProofs (maxSteps:=1000000) only [go_sem,flat2,e,take_rows,take1B,take2B]
   repeat refine ⟨sc,?_⟩
   try exact sf
   try rfl
 ·have e:putEuc b n=(b++[mkU n],true):=by rw [putEuc,g]; rfl
  try simp -implicitDefEqProofs (maxSteps:=1000000) only [go_sem,mkU_wrap]
  repeat refine ⟨sc,?_⟩
  try exact sf
  refine .of (c_i_joined [b,[mkU n]] (by rw [flat2,List.length_append]; simp only [List.length_cons,List.length_nil]; omega) (by show 2≤2 ^ 31; decide)) ?_
  try simp -implicitDefEqProofs (maxSteps:=1000000) only [go_sem,flat2,e,take_rows,take1B,take2B]
  repeat refine ⟨sc,?_⟩
  try exact sf
  try rfl
def x_s_PutEuc:FnX:=⟨36,[.tmp 4,.tmp 5],
  .q [.op 4 (.mv (.k (.one (.nils 1)))),.F 5]
 (.q [.op 10 (.bslice 1 []),.m 11 0,.op 12 (.app 1 1 (.t 10) (.t 11)),.m 6 12]
 (.seq (.q [.m 13 1,.op 14 (.call 64 [0,0,0] [(.t 13),(.i 0),(.i 127)])]
 (.c 14 (.q [.m 15 6,.m 16 1,.op 17 (.conv (.int .u8) (.t 16)),.op 18 (.bslice 1 [(.t 17)]),.op 19 (.app 1 1 (.t 15) (.t 18)),.m 4 19,.T 5]
 .ret)))
 (.q [.m 21 1,.c 22 232 [21],.m 20 22,.e 23 20 0,.e 24 20 1,.e 25 20 2,.m 7 23,.m 8 24,.m 9 25]
 (.seq (.q [.m 26 9,.N 27 26]
 (.c 27 (.q [.m 28 6,.m 4 28,.F 5]
 .ret)))
 (.q [.m 29 6,.m 30 7,.op 31 (.conv (.int .u8) (.t 30)),.m 32 8,.op 33 (.conv (.int .u8) (.t 32)),.op 34 (.bslice 1 [(.t 31),(.t 33)]),.op 35 (.app 1 1 (.t 29) (.t 34)),.m 4 35,.T 5]
 .ret)))))⟩
theorem r_s_PutEuc {Te:TE} (c_s_l1In:C_s_l1In Te) (c_s_SignPair:C_s_SignPair Te):C_s_PutEuc (RF Te x_s_PutEuc):=by
 intro b n hb
 refine X0 x_s_PutEuc.eq_1 ?_
 refine C0 (c_s_l1In _ _ _) ?_
 cases g:win n 0 127
 ·refine G0 ?_
  refine C0 (c_s_SignPair _) ?_
  cases g2:(signPair n).2.2
  ·have e:putEuc b n=(b,false):=by rw [putEuc,g,g2]; rfl
   exact F2 g2 e
  ·have e:putEuc b n=(b++[mkU (signPair n).1,mkU (signPair n).2.1],true):=by rw [putEuc,g,g2]; rfl
   try simp -implicitDefEqProofs (maxSteps:=1000000) only [go_sem,g2,mkU_wrap,app2B,take2B,e,take_rows]
   repeat refine ⟨sc,?_⟩
   try exact sf
   try rfl
 ·have e:putEuc b n=(b++[mkU n],true):=by rw [putEuc,g]; rfl
  try simp -implicitDefEqProofs (maxSteps:=1000000) only [go_sem,mkU_wrap,app1B,take1B,e,take_rows]
  repeat refine ⟨sc,?_⟩
  try exact sf
  try rfl
end Go.X

