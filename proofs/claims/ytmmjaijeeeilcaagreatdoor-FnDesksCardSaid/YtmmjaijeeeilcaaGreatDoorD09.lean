/- Texts: CVq CVu_3 CVj_4 CF CVzs_2 CVj CVl_2 CVzs_4 CVzm CUa_2 CK_2 CVx_2. -/
import Derived.Test.YtmmjaijeeeilcaaGreatDoorD04
set_option linter.unusedVariables false
set_option linter.unusedSimpArgs false
namespace Go.X
set_option maxRecDepth 100000
set_option maxHeartbeats 8000000
def x_Cf:FnX:=⟨46,[.tmp 4],
  .q [.v 3 1,.op 4 (.mv (.k (.one (.nils 3))))]
 (.q [.op 9 (.bslice 3 []),.m 5 9]
 (.q [.F 6]
 (.seq (.q [.m 10 0,.n 11 10,.i 12 0]
 (.block 0 (.loop [3,5,6,10,11,12] (.q [.b 13 .lss 12 11]
 (.seq (.cond 13 .skip (.exit 0))
 (.seq (.block 1 (.q [.x 14 3 10 12,.L 15 3 14,.op 8 (.alloc [.i 0,.i 0,.i 0]),.s 100001 3 8 15]
 (.seq (.q [.m 16 6,.N 17 16,.m 18 17,.y 18 (.f 19 8 0),.y 18 (.l 20 19),.y 18 (.f 21 3 0),.y 18 (.l 22 21),.y 18 (.b 23 .geq 20 22),.a 24 18 23]
 (.c 24 (.q [.m 25 5,.L 26 3 3,.op 27 (.bslice 3 [(.t 26)]),.op 28 (.app 3 24 (.t 25) (.t 27)),.m 5 28]
 (.reg [.T 6]))))
 (.q [.f 29 8 0,.l 30 29,.f 31 3 0,.l 32 31,.b 33 .neq 30 32]
 (.c 33 (.reg [.m 34 5,.L 35 3 8,.op 36 (.bslice 3 [(.t 35)]),.op 37 (.app 3 24 (.t 34) (.t 36)),.m 5 37]))))))
 (.reg [.B 38 .add 12 1,.m 12 38])))))))
 (.norm [3,5,6] (.seq (.q [.m 39 6,.N 40 39]
 (.c 40 (.reg [.m 41 5,.L 42 3 3,.op 43 (.bslice 3 [(.t 42)]),.op 44 (.app 3 24 (.t 41) (.t 43)),.m 5 44])))
 (.q [.m 45 5,.m 4 45]
 .ret))))))⟩
theorem r_Cf {Te:TE}:C_Cf (RF Te x_Cf):=by
 intro l m h
 refine X0 x_Cf.eq_1 ?_
 refine loop_of (σ:=Nat×List MarkV×Bool) (fun x=>⟨[(3,.bp 3 0),(5,.one (.rf 48 0 [] 3 0 x.2.1.length)),(6,.one (.pv (.bool x.2.2))),(10,.one (.ro 3 (l.map MarkV.row))),(11,.one (.pv (.int .i64 l.length))),(12,.one (.pv (.int .i64 x.1)))],[(3,[.pv (.int .i64 m.Who),.pv (.int .i64 m.Seq),.pv (.int .i64 m.Code)])],[(0,[slT false 3 MarkV.row l]),(1,m.row),(48,[slT true 3 MarkV.row x.2.1])]⟩) (fun x=>x.1≤l.length∧x.2=(l.take x.1).foldl (insM m) ([],false)) (fun x=>l.length - x.1) (0,[],false) ?_ ⟨Nat.zero_le _,rfl⟩ ?_
 ·simp -implicitDefEqProofs (maxSteps:=1000000) only [go_sem]
  try rfl
 ·rintro ⟨i,o,p⟩ ⟨hi,he⟩
  simp only at hi he
  have hol:o.length≤2 * l.length:=by
   have:=insM_le m (l.take i) ([],false)
   rw [← he] at this
   simp only [List.length_nil,List.length_take] at this
   omega
  cases q:decide ((i:Int) < (l.length:Int))
  ·have k0:i=l.length:=by simp only [decide_eq_false_iff_not] at q; omega
   rw [k0,List.take_length] at he
   cases p
   ·have e:insMark l m=o++[m]:=by rw [insMark,← he]; rfl
    have ea:=app1M o m
    have et:List.take (o.length + 1) (List.map MarkV.row (o++[m]))=List.map MarkV.row (o++[m]):=List.take_of_length_le (by simp)
    exact F4 q e ea et
   ·have e:insMark l m=o:=by rw [insMark,← he]; rfl
    exact F2 q e
  ·have k1:i < l.length:=by simp only [decide_eq_true_eq] at q; omega
   have es:=insM_step (m:=m) k1
   rw [← he] at es
   cases g2:decide (l[i].Who≠m.Who) <;> cases g1:decide (l[i].Who≥m.Who) <;> cases p
   all_goals
    have g3:(l[i].Who != m.Who)=decide (l[i].Who≠m.Who):=by simp only [bne,ne_eq]; by_cases h:l[i].Who=m.Who <;> simp [h]
    simp only [insM,g1,g2,Bool.not_true,Bool.not_false,Bool.and_true,Bool.and_false,Bool.or_true,Bool.or_false,Bool.true_or,Bool.false_or,Bool.true_and,Bool.false_and,if_true,if_false,Bool.false_eq_true] at es
    have ea:=app1M o m
    have eb:=app1M o l[i]
    have ec:=app1M (o++[m]) l[i]
    have et:List.take (o.length + 1) (List.map MarkV.row (o++[m]))=List.map MarkV.row (o++[m]):=List.take_of_length_le (by simp)
    try simp -implicitDefEqProofs (maxSteps:=1000000) only [go_sem,q,g1,g3,g2,List.getElem?_eq_getElem k1,take_marks,ea,eb,ec,et]
    repeat refine ⟨sc,?_⟩
   all_goals
    refine ⟨(i + 1,(l.take (i + 1)).foldl (insM m) ([],false)),?_,⟨k1,rfl⟩,by simp only; omega⟩
    rw [← es,IntWalk.i64_in _ (by omega)]
    try simp only [List.length_append]
    rfl
def x_Eq:FnX:=⟨53,[.tmp 4],
  .q [.v 3 1,.op 4 (.mv (.k (.one (.nils 3))))]
 (.q [.op 8 (.bslice 3 []),.m 5 8]
 (.q [.F 6]
 (.seq (.q [.i 7 0]
 (.block 0 (.loop [0,3,5,6,7] (.seq (.q [.m 9 7,.m 10 0,.n 11 10,.b 12 .lss 9 11]
 (.cond 12 .skip (.exit 0)))
 (.seq (.block 1 (.seq (.seq (.draw [.m 15 6,.N 16 15,.m 17 16,.y 17 (.m 18 0),.y 17 (.m 19 7),.y 17 (.x 20 3 18 19),.y 17 (.f 21 20 0),.y 17 (.l 22 21),.y 17 (.f 23 3 0),.y 17 (.l 24 23),.y 17 (.b 25 .geq 22 24),.a 26 17 25] [[],[0],[1],[2],[2],[3,4,2],[5,2],[6,2],[2],[8,2],[7,9,2],[2,10]])
 (.c 26 (.q [.m 27 5,.L 28 3 3,.op 29 (.bslice 3 [(.t 28)]),.op 30 (.app 3 24 (.t 27) (.t 29)),.m 5 30]
 (.reg [.T 6]))))
 (.seq (.draw [.m 31 0,.m 32 7,.x 33 3 31 32,.f 34 33 0,.l 35 34,.f 36 3 0,.l 37 36,.b 38 .neq 35 37] [[],[],[0,1],[2],[3],[],[5],[4,6]])
 (.c 38 (.reg [.m 39 5,.m 40 0,.m 41 7,.x 42 3 40 41,.L 43 3 42,.op 44 (.bslice 3 [(.t 43)]),.op 45 (.app 3 24 (.t 39) (.t 44)),.m 5 45])))))
 (.reg [.m 13 7,.B 14 .add 13 1,.m 7 14]))))))
 (.norm [3,5,6] (.seq (.q [.m 46 6,.N 47 46]
 (.c 47 (.reg [.m 48 5,.L 49 3 3,.op 50 (.bslice 3 [(.t 49)]),.op 51 (.app 3 24 (.t 48) (.t 50)),.m 5 51])))
 (.q [.m 52 5,.m 4 52]
 .ret))))))⟩
theorem r_Eq {Te:TE}:C_Eq (RF Te x_Eq):=by
 intro l m h
 refine X0 x_Eq.eq_1 ?_
 refine loop_of (σ:=Nat×List MarkV×Bool) (fun x=>⟨[(0,.one (.ro 3 (l.map MarkV.row))),(3,.bp 3 0),(5,.one (.rf 55 0 [] 3 0 x.2.1.length)),(6,.one (.pv (.bool x.2.2))),(7,.one (.pv (.int .i64 x.1)))],[(3,[.pv (.int .i64 m.Who),.pv (.int .i64 m.Seq),.pv (.int .i64 m.Code)])],[(0,[slT false 3 MarkV.row l]),(1,m.row),(55,[slT true 3 MarkV.row x.2.1])]⟩) (fun x=>x.1≤l.length∧x.2=(l.take x.1).foldl (insM m) ([],false)) (fun x=>l.length - x.1) (0,[],false) ?_ ⟨Nat.zero_le _,rfl⟩ ?_
 ·simp -implicitDefEqProofs (maxSteps:=1000000) only [go_sem]
  try rfl
 ·rintro ⟨i,o,p⟩ ⟨hi,he⟩
  simp only at hi he
  have hol:o.length≤2 * l.length:=by
   have:=insM_le m (l.take i) ([],false)
   rw [← he] at this
   simp only [List.length_nil,List.length_take] at this
   omega
  cases q:decide ((i:Int) < (l.length:Int))
  ·have k0:i=l.length:=by simp only [decide_eq_false_iff_not] at q; omega
   rw [k0,List.take_length] at he
   cases p
   ·have e:insMark l m=o++[m]:=by rw [insMark,← he]; rfl
    have ea:=app1M o m
    have et:List.take (o.length + 1) (List.map MarkV.row (o++[m]))=List.map MarkV.row (o++[m]):=List.take_of_length_le (by simp)
    exact F4 q e ea et
   ·have e:insMark l m=o:=by rw [insMark,← he]; rfl
    exact F2 q e
  ·have k1:i < l.length:=by simp only [decide_eq_true_eq] at q; omega
   have es:=insM_step (m:=m) k1
   rw [← he] at es
   cases g2:decide (l[i].Who≠m.Who) <;> cases g1:decide (l[i].Who≥m.Who) <;> cases p
   all_goals
    have g3:(l[i].Who != m.Who)=decide (l[i].Who≠m.Who):=by simp only [bne,ne_eq]; by_cases h:l[i].Who=m.Who <;> simp [h]
    simp only [insM,g1,g2,Bool.not_true,Bool.not_false,Bool.and_true,Bool.and_false,Bool.or_true,Bool.or_false,Bool.true_or,Bool.false_or,Bool.true_and,Bool.false_and,if_true,if_false,Bool.false_eq_true] at es
    have ea:=app1M o m
    have eb:=app1M o l[i]
    have ec:=app1M (o++[m]) l[i]
    have et:List.take (o.length + 1) (List.map MarkV.row (o++[m]))=List.map MarkV.row (o++[m]):=List.take_of_length_le (by simp)
    try simp -implicitDefEqProofs (maxSteps:=1000000) only [go_sem,q,g1,g3,g2,List.getElem?_eq_getElem k1,take_marks,ea,eb,ec,et]
    repeat refine ⟨sc,?_⟩
   all_goals
    refine ⟨(i + 1,(l.take (i + 1)).foldl (insM m) ([],false)),?_,⟨k1,rfl⟩,by simp only; omega⟩
    rw [← es,IntWalk.i64_in _ (by omega)]
    try simp only [List.length_append]
    rfl
def x_Eu_1:XCode:=.seq (.q [.m 37 0,.op 38 (.nilc (.t 37)),.f 39 38 0,.f 40 39 3,.l 41 40,.m 42 41,.z 42 (.m 43 0),.z 42 (.op 44 (.nilc (.t 43))),.z 42 (.f 45 44 8),.z 42 (.l 46 45),.z 42 (.B 47 .eql 46 30),.r 48 42 47]
 (.c 48 (.q [.F 4]
 .ret)))
 (.seq (.draw [.m 49 0,.op 50 (.nilc (.t 49)),.f 51 50 0,.m 52 0,.op 53 (.nilc (.t 52)),.f 54 53 7,.l 55 54,.m 56 0,.op 57 (.nilc (.t 56)),.f 58 57 8,.l 59 58,.c 60 193 [55,59],.m 61 0,.op 62 (.nilc (.t 61)),.f 63 62 7,.l 64 63,.m 65 0,.op 66 (.nilc (.t 65)),.f 67 66 8,.l 68 67,.L 69 13 3,.c 70 194 [64,68,69],.op 71 (.call 192 [6,0,0] [(.t 51),(.t 60),(.t 70)])] [[],[0],[1],[],[3],[4],[5],[],[7],[8],[9],[6,10],[],[12],[13],[14],[],[16],[17],[18],[],[15,19,20,11],[2,11,21,21]])
 (.q [.m 72 0,.op 73 (.nilc (.t 72)),.f 74 73 0,.op 75 (.call 195 [6] [(.t 74)])]
 (.seq (.q [.m 76 0,.op 77 (.nilc (.t 76)),.f 78 77 0,.f 79 78 3,.l 80 79]
 (.c 80 (.q [.F 4]
 .ret)))
 (.q [.m 81 0,.m 82 0,.op 83 (.nilc (.t 82)),.f 84 83 8,.l 85 84,.B 86 .add 85 1,.op 87 (.nilc (.t 81)),.f 88 87 8,.s 100002 1 88 86]
 (.q [.m 89 0,.L 90 3 5,.op 91 (.nilc (.t 89)),.f 92 91 4,.s 100003 3 92 90]
 (.q [.T 4]
 .ret))))))
def x_Eu:FnX:=⟨93,[.tmp 4],
  .q [.v 3 1,.F 4]
 (.seq (.draw [.m 8 0,.op 9 (.nilc (.t 8)),.f 10 9 4,.L 11 3 10,.L 12 13 3,.c 13 190 [11,12],.m 7 13,.e 14 7 0,.e 15 7 1,.op 5 (.alloc [.nils 7,.i 0,.nils 3]),.s 100001 3 5 14,.m 6 15] [[],[0],[1],[2],[],[3,4],[5],[6],[6],[],[9,7,5,0,1,2,3,4,5,6,7,9],[8,10,0,1,2,3,4,5,6,7,8,9,10]])
 (.seq (.q [.m 16 6,.N 17 16]
 (.c 17 (.q [.F 4]
 .ret)))
 (.seq (.q [.m 18 0,.op 19 (.nilc (.t 18)),.f 20 19 8,.l 21 20,.B 22 .eql 21 30,.m 23 22,.y 23 (.m 24 0),.y 23 (.op 25 (.nilc (.t 24))),.y 23 (.f 26 25 7),.y 23 (.l 27 26),.y 23 (.B 28 .lss 27 60000),.a 29 23 28]
 (.c 29 (.reg [.m 30 0,.m 31 0,.op 32 (.nilc (.t 31)),.f 33 32 7,.l 34 33,.B 35 .add 34 1,.op 36 (.call 191 [11,0] [(.t 30),(.t 35)])])))
 (.norm [0,3,5] (x_Eu_1)))))⟩
theorem r_Eu {Te:TE} (c_Cs:C_Cs Te) (c_Ez:C_Ez Te) (c_Ew:C_Ew Te) (c_Dq:C_Dq Te) (c_Eg:C_Eg Te) (c_Ee:C_Ee Te):C_Eu (RF Te x_Eu):=by
 intro s r hk hd hT hr
 have q:=room_ok hk hT
 have hk1:=(StoreV.ok_iff s).1 hk
 refine X0 x_Eu.eq_1 ?_
 refine C0 (c_Cs s.T r hT hr) ?_
 cases g3:(s.T.apply r).2
 ·have e:s.add r=(s,false):=by rw [StoreV.add,StoreV.fits,hk,hd,g3]; rfl
  exact F2 g3 e
 have e:s.add r=s.room.end (s.T.apply r).1 r:=by rw [StoreV.add,StoreV.fits,hk,hd,g3]; rfl
 rw [e]
 generalize (s.T.apply r).1=t
 have hr8:=hr.mono (m:=2 ^ 48) (by decide)
 clear e
 cases g4:(s.Place==30)
 ·have er:s.room=s:=by rw [StoreV.room,g4]; rfl
  rw [er] at q ⊢
  have f2:=write_ok q.1 (secOf s.Gen s.Place) (putRec s.Gen s.Place r)
  have hp:=putRec_len s.Gen s.Place r
  have ew:IntKind.i64.wrap (s.Place + 1)=s.Place + 1:=IntWalk.i64_in _ (by omega)
  have hcl:=(DevV.ok_iff _).1 q.1
  have hcl2:=(DevV.ok_iff _).1 f2
  have t1:=c_Eg s.D (secOf s.Gen s.Place) (putRec s.Gen s.Place r) (by omega) (by omega)
  simp only [DevV.enc,hd] at t1
  refine G3 g3 hd g4 ?_
  simp -implicitDefEqProofs (maxSteps:=1000000) only [x_Eu_1,go_sem,g4]
  repeat refine ⟨sc,?_⟩
  refine C0 (c_Ew _ _) ?_
  refine C0 (c_Dq s.Gen s.Place r hr8) ?_
  refine C0 (t1) ?_
  refine .of (c_Ee _ (by omega) (DevV.ok_idx f2)) ?_
  try simp -implicitDefEqProofs (maxSteps:=1000000) only [go_sem,take_all]
  repeat refine ⟨sc,?_⟩
  try exact sf
  have el:((s.D.write (secOf s.Gen s.Place) (putRec s.Gen s.Place r)).flush)=s.log r:=rfl
  rw [el]
  cases g9:(s.log r).Down
  ·have e2:s.end t r=(⟨s.log r,t,s.Gen,s.Place + 1⟩,true):=by rw [StoreV.end,hd,g4,g9]; rfl
   try simp -implicitDefEqProofs (maxSteps:=1000000) only [go_sem,g9,ew,e2,take_all,take_marks,StoreV.enc]
   repeat refine ⟨sc,?_⟩
   try exact sf
   try rfl
  ·have e2:s.end t r=(⟨s.log r,s.T,s.Gen,s.Place⟩,false):=by rw [StoreV.end,hd,g4,g9]; rfl
   try simp -implicitDefEqProofs (maxSteps:=1000000) only [go_sem,g9,e2,take_all,take_marks,StoreV.enc]
   repeat refine ⟨sc,?_⟩
   try exact sf
   try rfl
 cases g5:(s.Gen==60000)
 ·have er:s.room=s.lay (s.Gen + 1):=by rw [StoreV.room,g4,StoreV.relay,hk,hd,g5]; rfl
  have g6:decide (s.Gen < 60000)=true:=by simp only [beq_eq_false_iff_ne] at g5; exact decide_eq_true (by omega)
  have ew:IntKind.i64.wrap (s.Gen + 1)=s.Gen + 1:=IntWalk.i64_in _ (by omega)
  rw [er] at q ⊢
  refine G4 g3 g4 g6 ew ?_
  refine C0 (c_Ez s (s.Gen + 1) hk1.1 hT) ?_
  generalize s.lay (s.Gen + 1)=S at q ⊢
  cases gd:S.D.Down
  rotate_left
  ·have e2:S.end t r=(S,false):=by rw [StoreV.end,gd]; rfl
   try simp -implicitDefEqProofs (maxSteps:=1000000) only [go_sem,x_Eu_1,gd,e2,take_all,take_marks,StoreV.enc]
   repeat refine ⟨sc,?_⟩
   try exact sf
   try rfl
  cases gp:(S.Place==30)
  rotate_left
  ·have e2:S.end t r=(S,false):=by rw [StoreV.end,gd,gp]; rfl
   try simp -implicitDefEqProofs (maxSteps:=1000000) only [go_sem,x_Eu_1,gd,gp,e2,take_all,take_marks,StoreV.enc]
   repeat refine ⟨sc,?_⟩
   try exact sf
   try rfl
  have f2:=write_ok q.1 (secOf S.Gen S.Place) (putRec S.Gen S.Place r)
  have hp:=putRec_len S.Gen S.Place r
  have ew:IntKind.i64.wrap (S.Place + 1)=S.Place + 1:=IntWalk.i64_in _ (by omega)
  have hcl:=(DevV.ok_iff _).1 q.1
  have hcl2:=(DevV.ok_iff _).1 f2
  have t1:=c_Eg S.D (secOf S.Gen S.Place) (putRec S.Gen S.Place r) (by omega) (by omega)
  simp only [DevV.enc,gd] at t1
  simp -implicitDefEqProofs (maxSteps:=1000000) only [x_Eu_1,go_sem,gd,gp]
  repeat refine ⟨sc,?_⟩
  refine C0 (c_Ew _ _) ?_
  refine C0 (c_Dq S.Gen S.Place r hr8) ?_
  refine C0 (t1) ?_
  refine .of (c_Ee _ (by omega) (DevV.ok_idx f2)) ?_
  try simp -implicitDefEqProofs (maxSteps:=1000000) only [go_sem,take_all]
  repeat refine ⟨sc,?_⟩
  try exact sf
  have el:((S.D.write (secOf S.Gen S.Place) (putRec S.Gen S.Place r)).flush)=S.log r:=rfl
  rw [el]
  cases g9:(S.log r).Down
  ·have e2:S.end t r=(⟨S.log r,t,S.Gen,S.Place + 1⟩,true):=by rw [StoreV.end,gd,gp,g9]; rfl
   try simp -implicitDefEqProofs (maxSteps:=1000000) only [go_sem,g9,ew,e2,take_all,take_marks,StoreV.enc]
   repeat refine ⟨sc,?_⟩
   try exact sf
   try rfl
  ·have e2:S.end t r=(⟨S.log r,S.T,S.Gen,S.Place⟩,false):=by rw [StoreV.end,gd,gp,g9]; rfl
   try simp -implicitDefEqProofs (maxSteps:=1000000) only [go_sem,g9,e2,take_all,take_marks,StoreV.enc]
   repeat refine ⟨sc,?_⟩
   try exact sf
   try rfl
 ·have er:s.room=s:=by rw [StoreV.room,g4,StoreV.relay,g5,Bool.not_true,Bool.and_false]; rfl
  have g6:decide (s.Gen < 60000)=false:=by simp only [beq_iff_eq] at g5; exact decide_eq_false (by omega)
  have e2:s.end t r=(s,false):=by rw [StoreV.end,g4,Bool.or_true]; rfl
  rw [er] at q ⊢
  refine G4 g3 hd g4 g6 ?_
  try simp -implicitDefEqProofs (maxSteps:=1000000) only [go_sem,x_Eu_1,hd,g4,e2,take_all,take_marks,StoreV.enc]
  repeat refine ⟨sc,?_⟩
  try exact sf
  try rfl
def x_Dq:FnX:=⟨70,[.tmp 6],
  .q [.v 5 2,.op 6 (.mv (.k (.one (.nils 1))))]
 (.seq (.q [.L 8 13 5,.c 9 276 [8],.N 10 9,.m 11 10,.z 11 (.m 12 0),.z 11 (.c 13 161 [12]),.z 11 (.N 14 13),.r 15 11 14,.m 16 15,.z 16 (.m 17 1),.z 16 (.c 18 161 [17]),.z 16 (.N 19 18),.r 20 16 19]
 (.c 20 (.q [.op 21 (.bslice 1 []),.m 6 21]
 .ret)))
 (.seq (.draw [.op 22 (.bslice 1 []),.m 23 0,.c 24 282 [22,23],.m 25 1,.c 26 282 [24,25],.f 27 5 0,.l 28 27,.op 29 (.conv (.int .u8) (.t 28)),.op 30 (.bslice 1 [(.t 29)]),.op 31 (.app 1 1 (.t 26) (.t 30)),.m 7 31] [[],[],[0,1],[],[2,3,2],[],[5],[6],[7],[4,8,4],[9,9,0,1,2,3,4,5,6,7,8,9]])
 (.seq (.q [.f 32 5 0,.l 33 32]
 (.block 0 (.q [.B 35 .eql 33 1,.m 34 35]
 (.cond 34 (.reg [.m 36 7,.f 37 5 1,.L 38 7 37,.c 39 283 [36,38],.m 7 39]) (.q [.B 41 .eql 33 2,.m 40 41]
 (.cond 40 (.reg [.m 42 7,.f 43 5 8,.l 44 43,.c 45 284 [42,44],.m 7 45]) (.q [.B 47 .eql 33 3,.m 46 47]
 (.c 46 (.reg [.m 48 7,.f 49 5 9,.l 50 49,.op 51 (.conv (.int .u8) (.t 50)),.op 52 (.bslice 1 [(.t 51)]),.op 53 (.app 1 1 (.t 48) (.t 52)),.m 7 53])))))))))
 (.seq (.draw [.m 54 7,.f 55 5 10,.l 56 55,.op 57 (.conv (.int .u8) (.t 56)),.f 58 5 12,.l 59 58,.op 60 (.conv (.int .u8) (.t 59)),.op 61 (.bslice 1 [(.t 57),(.t 60)]),.op 62 (.app 1 1 (.t 54) (.t 61)),.f 63 5 11,.l 64 63,.c 65 282 [62,64],.m 7 65] [[],[],[1],[2],[],[4],[5],[3,6],[0,7],[],[9],[8,10,8],[11,11,0,1,2,3,4,5,6,7,8,9,10,11]])
 (.q [.m 66 7,.m 67 7,.c 68 285 [67],.c 69 282 [66,68],.m 6 69]
 .ret)))))⟩
theorem r_Dq {Te:TE} (c_Dv:C_Dv Te) (c_Fw:C_Fw Te) (c_Du:C_Du Te) (c_Dr:C_Dr Te) (c_Dt:C_Dt Te) (c_E7:C_E7 Te):C_Dq (RF Te x_Dq):=by
 intro gen place r h
 have h1:=h.1
 have h2:=h.2
 refine X0 x_Dq.eq_1 ?_
 refine C0 (c_Dv r h) ?_
 cases g1:r.ok
 ·have e:=recNo1 (gen:=gen) (place:=place) g1
  exact F1 e
 refine G0 ?_
 refine C0 (c_Fw _) ?_
 cases g2:win gen 0 65535
 ·have e:=recNo2 (place:=place) (r:=r) g2
  exact F1 e
 refine G0 ?_
 refine C0 (c_Fw _) ?_
 cases g3:win place 0 65535
 ·have e:=recNo3 (gen:=gen) (r:=r) g3
  exact F1 e
 refine G0 ?_
 have ey:=recYes g1 g2 g3
 have lw:(putW (putW [] gen) place).length=4:=by rw [putW_len,putW_len]; rfl
 have t1:=c_Du [] gen (by show 0≤2 ^ 30; decide)
 refine C0 (t1) ?_
 refine .of (c_Du (putW [] gen) place (by rw [putW_len]; show 0 + 2≤2 ^ 30; decide)) ?_
 try simp -implicitDefEqProofs (maxSteps:=1000000) only [go_sem,mkU_wrap,app1B,take1B]
 repeat refine ⟨sc,?_⟩
 try exact sf
 have e1:putW (putW [] gen) place++[mkU r.Kind]=recHead gen place r:=rfl
 have e2:(putW (putW [] gen) place).length + 1=(recHead gen place r).length:=by rw [recHead,List.length_append]; rfl
 simp only [e1,e2]
 have l0:=recHead_len gen place r
 generalize eH:recHead gen place r=H at l0 ⊢
 by_cases q1:r.Kind=1
 ·have k1:(r.Kind==1)=true:=by rw [q1]; rfl
  refine G1 k1 ?_
  refine C0 (c_Dr H r.R (by omega) h1) ?_
  have e3:putRow H r.R=recKind H r:=(if_pos q1).symm
  have l3:=recKind_len H r
  try simp -implicitDefEqProofs (maxSteps:=1000000) only [go_sem,e3,mkU_wrap,app2B,take2B]
  repeat refine ⟨sc,?_⟩
  try exact sf
  have tt:=c_Du (recKind H r++[mkU r.Who,mkU r.Code]) r.Seq (by rw [List.length_append]; simp only [List.length_cons,List.length_nil]; omega)
  have e4:putW (recKind H r++[mkU r.Who,mkU r.Code]) r.Seq=recBody gen place r:=by rw [recBody,eH]
  rw [e4] at tt
  refine C0 (tt) ?_
  have l4:=recBody_len gen place r
  refine C0 (c_E7 (recBody gen place r) (by omega)) ?_
  refine .of (c_Du (recBody gen place r) _ (by omega)) ?_
  try simp -implicitDefEqProofs (maxSteps:=1000000) only [go_sem,ey]
  repeat refine ⟨sc,?_⟩
  try exact sf
 by_cases q2:r.Kind=2
 ·have k1:(r.Kind==1)=false:=by rw [q2]; rfl
  have k2:(r.Kind==2)=true:=by rw [q2]; rfl
  refine G2 k1 k2 ?_
  refine C0 (c_Dt H r.Key (by omega) h2) ?_
  have e3:putText H r.Key=recKind H r:=by rw [recKind,if_neg q1,if_pos q2]
  have l3:=recKind_len H r
  try simp -implicitDefEqProofs (maxSteps:=1000000) only [go_sem,e3,mkU_wrap,app2B,take2B]
  repeat refine ⟨sc,?_⟩
  try exact sf
  have tt:=c_Du (recKind H r++[mkU r.Who,mkU r.Code]) r.Seq (by rw [List.length_append]; simp only [List.length_cons,List.length_nil]; omega)
  have e4:putW (recKind H r++[mkU r.Who,mkU r.Code]) r.Seq=recBody gen place r:=by rw [recBody,eH]
  rw [e4] at tt
  refine C0 (tt) ?_
  have l4:=recBody_len gen place r
  refine C0 (c_E7 (recBody gen place r) (by omega)) ?_
  refine .of (c_Du (recBody gen place r) _ (by omega)) ?_
  try simp -implicitDefEqProofs (maxSteps:=1000000) only [go_sem,ey]
  repeat refine ⟨sc,?_⟩
  try exact sf
 by_cases q3:r.Kind=3
 ·have k1:(r.Kind==1)=false:=by rw [q3]; rfl
  have k2:(r.Kind==2)=false:=by rw [q3]; rfl
  have k3:(r.Kind==3)=true:=by rw [q3]; rfl
  have e3:H++[mkU r.N]=recKind H r:=by rw [recKind,if_neg q1,if_neg q2,if_pos q3]
  have e5:H.length + 1=(recKind H r).length:=by rw [← e3,List.length_append]; rfl
  have l3:=recKind_len H r
  try simp -implicitDefEqProofs (maxSteps:=1000000) only [go_sem,k1,k2,k3,mkU_wrap,app1B,e3,e5,take_rows]
  repeat refine ⟨sc,?_⟩
  try exact sf
  try simp -implicitDefEqProofs (maxSteps:=1000000) only [go_sem,e3,mkU_wrap,app2B,take2B]
  repeat refine ⟨sc,?_⟩
  try exact sf
  have tt:=c_Du (recKind H r++[mkU r.Who,mkU r.Code]) r.Seq (by rw [List.length_append]; simp only [List.length_cons,List.length_nil]; omega)
  have e4:putW (recKind H r++[mkU r.Who,mkU r.Code]) r.Seq=recBody gen place r:=by rw [recBody,eH]
  rw [e4] at tt
  refine C0 (tt) ?_
  have l4:=recBody_len gen place r
  refine C0 (c_E7 (recBody gen place r) (by omega)) ?_
  refine .of (c_Du (recBody gen place r) _ (by omega)) ?_
  try simp -implicitDefEqProofs (maxSteps:=1000000) only [go_sem,ey]
  repeat refine ⟨sc,?_⟩
  try exact sf
 obtain ⟨k1,k2,k3⟩:=other3 q1 q2 q3
 refine G3 k1 k2 k3 ?_
 have e3:recKind H r=H:=by rw [recKind,if_neg q1,if_neg q2,if_neg q3]
 try simp -implicitDefEqProofs (maxSteps:=1000000) only [go_sem,mkU_wrap,app2B,take2B]
 repeat refine ⟨sc,?_⟩
 try exact sf
 have tt:=c_Du (H++[mkU r.Who,mkU r.Code]) r.Seq (by rw [List.length_append]; simp only [List.length_cons,List.length_nil]; omega)
 have e4:putW (H++[mkU r.Who,mkU r.Code]) r.Seq=recBody gen place r:=by rw [recBody,eH,e3]
 rw [e4] at tt
 refine C0 (tt) ?_
 have l4:=recBody_len gen place r
 refine C0 (c_E7 (recBody gen place r) (by omega)) ?_
 refine .of (c_Du (recBody gen place r) _ (by omega)) ?_
 try simp -implicitDefEqProofs (maxSteps:=1000000) only [go_sem,ey]
 repeat refine ⟨sc,?_⟩
 try exact sf
def x_Ah:FnX:=⟨22,[.tmp 4],
  .q [.op 4 (.mv (.k (.one (.nils 1))))]
 (.seq (.q [.m 6 0,.op 7 (.call 90 [0,0,0] [(.t 6),(.i 1),(.i 60000)]),.N 8 7,.m 9 8,.z 9 (.m 10 1),.z 9 (.op 11 (.call 90 [0,0,0] [(.t 10),(.i 0),(.i 30)])),.z 9 (.N 12 11),.r 13 9 12]
 (.c 13 (.q [.op 4 (.mv (.k (.one (.nils 1))))]
 .ret)))
 (.q [.m 14 0,.op 15 (.call 312 [0,0] [(.k (.one (.nils 1))),(.t 14)]),.m 16 1,.c 17 312 [15,16],.m 5 17]
 (.q [.m 18 5,.m 19 5,.c 20 315 [19],.c 21 312 [18,20],.m 4 21]
 .ret)))⟩
theorem r_Ah {Te:TE} (c_Ch:C_Ch Te) (c_B0:C_B0 Te) (c_Be:C_Be Te):C_Ah (RF Te x_Ah):=by
 intro gen n
 refine X0 x_Ah.eq_1 ?_
 refine C0 (c_Ch _ _ _) ?_
 cases g1:win gen 1 60000
 ·have e:headOf gen n=[]:=by rw [headOf,headGood,g1]; rfl
  exact F1 e
 refine G0 ?_
 refine C0 (c_Ch _ _ _) ?_
 cases g2:win n 0 30
 ·have e:headOf gen n=[]:=by rw [headOf,headGood,g1,g2]; rfl
  exact F1 e
 refine G0 ?_
 have e:headOf gen n=putW (putW (putW [] gen) n) (sum (putW (putW [] gen) n):Nat):=by rw [headOf,headGood,g1,g2]; rfl
 have l1:(putW (putW [] gen) n).length=4:=by rw [putW_len,putW_len]; rfl
 have t1:=c_B0 [] gen (by show 0≤2 ^ 30; decide)
 refine C0 (t1) ?_
 refine C0 (c_B0 (putW [] gen) n (by rw [putW_len]; show 0 + 2≤2 ^ 30; decide)) ?_
 refine C0 (c_Be (putW (putW [] gen) n) (by omega)) ?_
 refine .of (c_B0 (putW (putW [] gen) n) _ (by omega)) ?_
 try simp -implicitDefEqProofs (maxSteps:=1000000) only [go_sem,e]
 repeat refine ⟨sc,?_⟩
 try exact sf
def x_Ch:FnX:=⟨15,[.tmp 6],
  .q [.F 6]
 (.q [.m 7 0,.m 8 1,.b 9 .geq 7 8,.m 10 9,.y 10 (.m 11 0),.y 10 (.m 12 2),.y 10 (.b 13 .leq 11 12),.a 14 10 13,.m 6 14]
 .ret)⟩
theorem r_Ch {Te:TE}:C_Ch (RF Te x_Ch):=by
 intro n a b
 refine run0 ?_
 simp -implicitDefEqProofs only [x_Ch,go_sem]
 refine bif_cases (fun h=>?_) (fun h=>?_) <;> simp -implicitDefEqProofs only [h,go_sem,win]
def x_Fo:FnX:=⟨15,[.tmp 6],
  .q [.F 6]
 (.q [.m 7 0,.m 8 1,.b 9 .geq 7 8,.m 10 9,.y 10 (.m 11 0),.y 10 (.m 12 2),.y 10 (.b 13 .leq 11 12),.a 14 10 13,.m 6 14]
 .ret)⟩
theorem r_Fo {Te:TE}:C_Fo (RF Te x_Fo):=by
 intro n a b
 refine run0 ?_
 simp -implicitDefEqProofs only [x_Fo,go_sem]
 refine bif_cases (fun h=>?_) (fun h=>?_) <;> simp -implicitDefEqProofs only [h,go_sem,win]
def x_C0:FnX:=⟨5,[.tmp 2],
  .q [.F 2]
 (.q [.m 3 0,.op 4 (.call 90 [0,0,0] [(.t 3),(.i 0),(.i 65535)]),.m 2 4]
 .ret)⟩
theorem r_C0 {Te:TE} (c_Ch:C_Ch Te):C_C0 (RF Te x_C0):=by
 intro n
 refine run0 ?_
 simp -implicitDefEqProofs only [x_C0,go_sem]
 exact D0 (c_Ch _ _ _)
def x_Fw:FnX:=⟨5,[.tmp 2],
  .q [.F 2]
 (.q [.m 3 0,.op 4 (.call 120 [0,0,0] [(.t 3),(.i 0),(.i 65535)]),.m 2 4]
 .ret)⟩
theorem r_Fw {Te:TE} (c_Fo:C_Fo Te):C_Fw (RF Te x_Fw):=by
 intro n
 refine run0 ?_
 simp -implicitDefEqProofs only [x_Fw,go_sem]
 exact D0 (c_Fo _ _ _)
def x_Al:FnX:=⟨50,[.tmp 2],
  .q [.v 1 0,.F 2]
 (.q [.f 3 1 0,.l 4 3,.op 5 (.call 90 [0,0,0] [(.t 4),(.i 1),(.i 9)]),.m 6 5,.y 6 (.f 7 1 1),.y 6 (.l 8 7),.y 6 (.op 9 (.call 90 [0,0,0] [(.t 8),(.i 0),(.i 4)])),.a 10 6 9,.m 11 10,.y 11 (.f 12 1 2),.y 11 (.l 13 12),.y 11 (.op 14 (.call 90 [0,0,0] [(.t 13),(.i 0),(.i 4)])),.a 15 11 14,.m 16 15,.y 16 (.f 17 1 1),.y 16 (.l 18 17),.y 16 (.f 19 1 2),.y 16 (.l 20 19),.y 16 (.b 21 .neq 18 20),.a 22 16 21,.m 23 22,.y 23 (.f 24 1 3),.y 23 (.l 25 24),.y 23 (.c 26 247 [25]),.a 27 23 26,.m 28 27,.y 28 (.f 29 1 4),.y 28 (.l 30 29),.y 28 (.op 31 (.slen (.t 30))),.y 28 (.B 32 .leq 31 60),.a 33 28 32,.m 34 33,.y 34 (.f 35 1 5),.y 34 (.l 36 35),.y 34 (.op 37 (.slen (.t 36))),.y 34 (.B 38 .leq 37 60),.a 39 34 38,.m 40 39,.y 40 (.f 41 1 6),.y 40 (.l 42 41),.y 40 (.op 43 (.call 90 [0,0,0] [(.t 42),(.i 0),(.i 255)])),.a 44 40 43,.m 45 44,.y 45 (.f 46 1 7),.y 45 (.l 47 46),.y 45 (.op 48 (.call 90 [0,0,0] [(.t 47),(.i 0),(.i 6)])),.a 49 45 48,.m 2 49]
 .ret)⟩
theorem r_Al {Te:TE} (c_Ch:C_Ch Te) (c_C0:C_C0 Te):C_Al (RF Te x_Al):=by
 intro m
 refine run0 ?_
 simp -implicitDefEqProofs only [x_Al,go_sem,Msg.ok]
 refine .of (c_Ch _ _ _) ?_
 simp -implicitDefEqProofs only [go_sem]
 refine bif_cases (fun h1=>?_) (fun h1=>?_) <;> simp -implicitDefEqProofs only [h1,go_sem]
 refine .of (c_Ch _ _ _) ?_
 simp -implicitDefEqProofs only [go_sem]
 refine bif_cases (fun h2=>?_) (fun h2=>?_) <;> simp -implicitDefEqProofs only [h2,go_sem]
 refine .of (c_Ch _ _ _) ?_
 simp -implicitDefEqProofs only [go_sem]
 refine bif_cases (fun h3=>?_) (fun h3=>?_) <;> simp -implicitDefEqProofs only [h3,go_sem]
 refine bif_cases (fun h4=>?_) (fun h4=>?_) <;> simp -implicitDefEqProofs only [h4,go_sem]
 refine .of (c_C0 _) ?_
 simp -implicitDefEqProofs only [go_sem]
 refine bif_cases (fun h5=>?_) (fun h5=>?_) <;> simp -implicitDefEqProofs only [h5,go_sem]
 refine bif_cases (fun h6=>?_) (fun h6=>?_) <;> simp -implicitDefEqProofs only [h6,go_sem]
 refine bif_cases (fun h7=>?_) (fun h7=>?_) <;> simp -implicitDefEqProofs only [h7,go_sem]
 refine .of (c_Ch _ _ _) ?_
 simp -implicitDefEqProofs only [go_sem]
 refine bif_cases (fun h8=>?_) (fun h8=>?_) <;> simp -implicitDefEqProofs only [h8,go_sem]
 refine .of (c_Ch _ _ _) ?_
 try simp -implicitDefEqProofs only [go_sem,h1,h2,h3,h4,h5,h6,h7,h8]
 repeat refine ⟨sc,?_⟩
 try exact sf
def x_Dd:FnX:=⟨50,[.tmp 2],
  .q [.v 1 0,.F 2]
 (.q [.f 3 1 0,.l 4 3,.op 5 (.call 120 [0,0,0] [(.t 4),(.i 1),(.i 9)]),.m 6 5,.y 6 (.f 7 1 1),.y 6 (.l 8 7),.y 6 (.op 9 (.call 120 [0,0,0] [(.t 8),(.i 0),(.i 4)])),.a 10 6 9,.m 11 10,.y 11 (.f 12 1 2),.y 11 (.l 13 12),.y 11 (.op 14 (.call 120 [0,0,0] [(.t 13),(.i 0),(.i 4)])),.a 15 11 14,.m 16 15,.y 16 (.f 17 1 1),.y 16 (.l 18 17),.y 16 (.f 19 1 2),.y 16 (.l 20 19),.y 16 (.b 21 .neq 18 20),.a 22 16 21,.m 23 22,.y 23 (.f 24 1 3),.y 23 (.l 25 24),.y 23 (.c 26 161 [25]),.a 27 23 26,.m 28 27,.y 28 (.f 29 1 4),.y 28 (.l 30 29),.y 28 (.op 31 (.slen (.t 30))),.y 28 (.B 32 .leq 31 60),.a 33 28 32,.m 34 33,.y 34 (.f 35 1 5),.y 34 (.l 36 35),.y 34 (.op 37 (.slen (.t 36))),.y 34 (.B 38 .leq 37 60),.a 39 34 38,.m 40 39,.y 40 (.f 41 1 6),.y 40 (.l 42 41),.y 40 (.op 43 (.call 120 [0,0,0] [(.t 42),(.i 0),(.i 255)])),.a 44 40 43,.m 45 44,.y 45 (.f 46 1 7),.y 45 (.l 47 46),.y 45 (.op 48 (.call 120 [0,0,0] [(.t 47),(.i 0),(.i 6)])),.a 49 45 48,.m 2 49]
 .ret)⟩
theorem r_Dd {Te:TE} (c_Fo:C_Fo Te) (c_Fw:C_Fw Te):C_Dd (RF Te x_Dd):=by
 intro m
 refine run0 ?_
 simp -implicitDefEqProofs only [x_Dd,go_sem,Msg.ok]
 refine .of (c_Fo _ _ _) ?_
 simp -implicitDefEqProofs only [go_sem]
 refine bif_cases (fun h1=>?_) (fun h1=>?_) <;> simp -implicitDefEqProofs only [h1,go_sem]
 refine .of (c_Fo _ _ _) ?_
 simp -implicitDefEqProofs only [go_sem]
 refine bif_cases (fun h2=>?_) (fun h2=>?_) <;> simp -implicitDefEqProofs only [h2,go_sem]
 refine .of (c_Fo _ _ _) ?_
 simp -implicitDefEqProofs only [go_sem]
 refine bif_cases (fun h3=>?_) (fun h3=>?_) <;> simp -implicitDefEqProofs only [h3,go_sem]
 refine bif_cases (fun h4=>?_) (fun h4=>?_) <;> simp -implicitDefEqProofs only [h4,go_sem]
 refine .of (c_Fw _) ?_
 simp -implicitDefEqProofs only [go_sem]
 refine bif_cases (fun h5=>?_) (fun h5=>?_) <;> simp -implicitDefEqProofs only [h5,go_sem]
 refine bif_cases (fun h6=>?_) (fun h6=>?_) <;> simp -implicitDefEqProofs only [h6,go_sem]
 refine bif_cases (fun h7=>?_) (fun h7=>?_) <;> simp -implicitDefEqProofs only [h7,go_sem]
 refine .of (c_Fo _ _ _) ?_
 simp -implicitDefEqProofs only [go_sem]
 refine bif_cases (fun h8=>?_) (fun h8=>?_) <;> simp -implicitDefEqProofs only [h8,go_sem]
 refine .of (c_Fo _ _ _) ?_
 try simp -implicitDefEqProofs only [go_sem,h1,h2,h3,h4,h5,h6,h7,h8]
 repeat refine ⟨sc,?_⟩
 try exact sf
def x_Cr:FnX:=⟨67,[.tmp 4],
  .q [.v 2 0,.v 3 1,.F 4]
 (.seq (.q [.f 7 2 0,.l 8 7,.n 9 8,.f 10 3 0,.l 11 10,.n 12 11,.b 13 .neq 9 12,.m 14 13,.z 14 (.f 15 2 1),.z 14 (.l 16 15),.z 14 (.f 17 3 1),.z 14 (.l 18 17),.z 14 (.b 19 .neq 16 18),.r 20 14 19,.m 21 20,.z 21 (.f 22 2 2),.z 21 (.l 23 22),.z 21 (.n 24 23),.z 21 (.f 25 3 2),.z 21 (.l 26 25),.z 21 (.n 27 26),.z 21 (.b 28 .neq 24 27),.r 29 21 28]
 (.c 29 (.q [.F 4]
 .ret)))
 (.seq (.q [.i 5 0]
 (.block 0 (.loop [2,3,5] (.seq (.q [.m 30 5,.f 31 2 0,.l 32 31,.n 33 32,.b 34 .lss 30 33]
 (.cond 34 .skip (.exit 0)))
 (.seq (.block 1 (.seq (.draw [.f 37 2 0,.l 38 37,.m 39 5,.x 40 7 38 39,.L 41 7 40,.f 42 3 0,.l 43 42,.m 44 5,.x 45 7 43 44,.L 46 7 45,.c 47 250 [41,46],.N 48 47] [[],[0],[],[1,2],[3],[],[5],[],[6,7],[8],[4,9],[10]])
 (.c 48 (.q [.F 4]
 .ret))))
 (.reg [.m 35 5,.B 36 .add 35 1,.m 5 36]))))))
 (.norm [2,3] (.seq (.q [.i 6 0]
 (.block 2 (.loop [2,3,6] (.seq (.q [.m 49 6,.f 50 2 2,.l 51 50,.n 52 51,.b 53 .lss 49 52]
 (.cond 53 .skip (.exit 2)))
 (.seq (.block 3 (.seq (.draw [.f 56 2 2,.l 57 56,.m 58 6,.x 59 3 57 58,.L 60 3 59,.f 61 3 2,.l 62 61,.m 63 6,.x 64 3 62 63,.L 65 3 64,.op 66 (.eqs true [0,0,0] (.t 60) (.t 65))] [[],[0],[],[1,2],[3],[],[5],[],[6,7],[8],[4,9]])
 (.c 66 (.q [.F 4]
 .ret))))
 (.reg [.m 54 6,.B 55 .add 54 1,.m 6 55]))))))
 (.norm [] (.q [.T 4]
 .ret))))))⟩
theorem r_Cr {Te:TE} (c_Cp:C_Cp Te):C_Cr (RF Te x_Cr):=by
 intro t h
 obtain ⟨⟨hS,_⟩,hC⟩:=h
 have nI:∀ z:Int,(z != z)=false:=fun z=>bne_self_eq_false z
 have eI:∀ z:Int,(z==z)=true:=fun z=>beq_self_eq_true z
 refine X1 x_Cr.eq_1 nI ?_
 refine loop_of (σ:=Nat) (fun i=>⟨[(2,.bp 2 0),(3,.bp 3 0),(5,.one (.pv (.int .i64 i)))],[(2,[.ro 7 (t.Rows.map (RowV.enc false)),.pv (.int .i64 t.Phase),.ro 3 (t.Marks.map MarkV.row)]),(3,[.ro 7 (t.Rows.map (RowV.enc false)),.pv (.int .i64 t.Phase),.ro 3 (t.Marks.map MarkV.row)])],[(0,t.enc false),(1,t.enc false)]⟩) (fun i=>i≤t.Rows.length) (fun i=>t.Rows.length - i) 0 ?_ (Nat.zero_le _) ?_
 ·simp -implicitDefEqProofs (maxSteps:=1000000) only [go_sem]
  try rfl
 ·rintro i hi
  cases q:decide ((i:Int) < (t.Rows.length:Int))
  ·refine G1 q ?_
   refine loop_of (σ:=Nat) (fun i=>⟨[(2,.bp 2 0),(3,.bp 3 0),(6,.one (.pv (.int .i64 i)))],[(2,[.ro 7 (t.Rows.map (RowV.enc false)),.pv (.int .i64 t.Phase),.ro 3 (t.Marks.map MarkV.row)]),(3,[.ro 7 (t.Rows.map (RowV.enc false)),.pv (.int .i64 t.Phase),.ro 3 (t.Marks.map MarkV.row)])],[(0,t.enc false),(1,t.enc false)]⟩) (fun i=>i≤t.Marks.length) (fun i=>t.Marks.length - i) 0 ?_ (Nat.zero_le _) ?_
   ·simp -implicitDefEqProofs (maxSteps:=1000000) only [go_sem]
    try rfl
   ·rintro i hi
    cases q:decide ((i:Int) < (t.Marks.length:Int))
    ·exact F1 q
    ·have k1:i < t.Marks.length:=by simp only [decide_eq_true_eq] at q; omega
     have k2:=List.getElem?_eq_getElem k1
     have xB:(true != true)=false:=rfl
     try simp -implicitDefEqProofs (maxSteps:=1000000) only [go_sem,q,k2,mark_eqs,xB]
     repeat refine ⟨sc,?_⟩
     try exact sf
     exact ⟨i + 1,by rw [IntWalk.i64_in _ (by omega)]; rfl,k1,by omega⟩
  ·have k1:i < t.Rows.length:=by simp only [decide_eq_true_eq] at q; omega
   have k2:=List.getElem?_eq_getElem k1
   refine G2 q k2 ?_
   refine C0 (c_Cp t.Rows[i]) ?_
   exact ⟨i + 1,by rw [IntWalk.i64_in _ (by omega)]; rfl,k1,by omega⟩
def x_Cq:FnX:=⟨31,[.tmp 4],
  .q [.v 2 0,.v 3 1,.F 4]
 (.q [.f 5 2 0,.L 6 4 5,.f 7 3 0,.L 8 4 7,.c 9 165 [6,8],.m 10 9,.y 10 (.f 11 2 4),.y 10 (.L 12 3 11),.y 10 (.f 13 3 4),.y 10 (.L 14 3 13),.y 10 (.c 15 166 [12,14]),.a 16 10 15,.m 17 16,.y 17 (.f 18 2 7),.y 17 (.l 19 18),.y 17 (.f 20 3 7),.y 17 (.l 21 20),.y 17 (.b 22 .eql 19 21),.a 23 17 22,.m 24 23,.y 24 (.f 25 2 8),.y 24 (.l 26 25),.y 24 (.f 27 3 8),.y 24 (.l 28 27),.y 24 (.b 29 .eql 26 28),.a 30 24 29,.m 4 30]
 .ret)⟩
theorem r_Cq {Te:TE} (c_Cm:C_Cm Te) (c_Cr:C_Cr Te):C_Cq (RF Te x_Cq):=by
 intro s h
 have eI:∀ z:Int,(z==z)=true:=fun z=>beq_self_eq_true z
 refine X0 x_Cq.eq_1 ?_
 refine C0 (c_Cm s.D h.1) ?_
 exact D1 (c_Cr s.T h.2) eI
def x_Co:FnX:=⟨17,[.tmp 4],
  .q [.v 2 0,.v 3 1,.F 4]
 (.q [.f 5 2 0,.L 6 9 5,.f 7 3 0,.L 8 9 7,.c 9 71 [6,8],.m 10 9,.y 10 (.f 11 2 9),.y 10 (.l 12 11),.y 10 (.f 13 3 9),.y 10 (.l 14 13),.y 10 (.b 15 .eql 12 14),.a 16 10 15,.m 4 16]
 .ret)⟩
theorem r_Co {Te:TE} (c_Cq:C_Cq Te):C_Co (RF Te x_Co):=by
 intro n h
 have eI:∀ z:Int,(z==z)=true:=fun z=>beq_self_eq_true z
 refine X0 x_Co.eq_1 ?_
 exact D1 (c_Cq n.S h) eI
def x_Ck:FnX:=⟨26,[.tmp 4],
  .q [.F 4]
 (.seq (.q [.m 6 0,.n 7 6,.m 8 1,.n 9 8,.b 10 .neq 7 9]
 (.c 10 (.q [.F 4]
 .ret)))
 (.seq (.q [.i 5 0]
 (.block 0 (.loop [0,1,5] (.seq (.q [.m 11 5,.m 12 0,.n 13 12,.b 14 .lss 11 13]
 (.cond 14 .skip (.exit 0)))
 (.seq (.block 1 (.seq (.draw [.m 17 0,.m 18 5,.x 19 6 17 18,.L 20 6 19,.m 21 1,.m 22 5,.x 23 6 21 22,.L 24 6 23,.op 25 (.eqs true [0,0,0,2,2,0] (.t 20) (.t 24))] [[],[],[0,1],[2],[],[],[4,5],[6],[3,7]])
 (.c 25 (.q [.F 4]
 .ret))))
 (.reg [.m 15 5,.B 16 .add 15 1,.m 5 16]))))))
 (.norm [] (.q [.T 4]
 .ret))))⟩
theorem r_Ck {Te:TE}:C_Ck (RF Te x_Ck):=by
 intro x hx
 have nI:∀ z:Int,(z != z)=false:=fun z=>bne_self_eq_false z
 have eI:∀ z:Int,(z==z)=true:=fun z=>beq_self_eq_true z
 have eL:∀ z:List UInt8,(z==z)=true:=fun z=>beq_self_eq_true z
 refine X1 x_Ck.eq_1 nI ?_
 refine loop_of (σ:=Nat) (fun i=>⟨[(0,.one (.ro 6 (x.map ActV.row))),(1,.one (.ro 6 (x.map ActV.row))),(5,.one (.pv (.int .i64 i)))],[],[(0,[slT false 6 ActV.row x]),(1,[slT false 6 ActV.row x])]⟩) (fun i=>i≤x.length) (fun i=>x.length - i) 0 ?_ (Nat.zero_le _) ?_
 ·simp -implicitDefEqProofs (maxSteps:=1000000) only [go_sem]
  try rfl
 ·rintro i hi
  cases q:decide ((i:Int) < (x.length:Int))
  ·exact F1 q
  ·have k1:i < x.length:=by simp only [decide_eq_true_eq] at q; omega
   have k2:=List.getElem?_eq_getElem k1
   have xB:(true != true)=false:=rfl
   try simp -implicitDefEqProofs (maxSteps:=1000000) only [go_sem,q,k2,act_eqs,xB]
   repeat refine ⟨sc,?_⟩
   try exact sf
   exact ⟨i + 1,by rw [IntWalk.i64_in _ (by omega)]; rfl,k1,by omega⟩
def x_Ei:FnX:=⟨15,[.tmp 4],
  .q [.v 3 1,.op 4 (.mv (.k (.one (.nils 1))))]
 (.seq (.draw [.m 5 0,.f 6 3 0,.l 7 6,.op 8 (.conv (.int .u8) (.t 7)),.op 9 (.bslice 1 [(.t 8)]),.op 10 (.app 1 1 (.t 5) (.t 9)),.f 11 3 1,.l 12 11,.op 13 (.conv .b2s (.t 12)),.c 14 284 [10,13],.m 4 14] [[],[],[1],[2],[3],[0,4],[],[6],[7],[5,8,5],[9,9,0,1,2,3,4,5,6,7,8,9]])
 .ret)⟩
theorem r_Ei {Te:TE} (c_Dt:C_Dt Te):C_Ei (RF Te x_Ei):=by
 intro b c hb hc
 refine run0 ?_
 have ea:=areBytes_uR c.B
 have fa:=bytesOf_uR c.B
 simp -implicitDefEqProofs (maxSteps:=1000000) only [x_Ei,go_sem,mkU_wrap,ea,fa,app1B,take1B]
 repeat refine ⟨sc,?_⟩
 try exact sf
 have tt:=c_Dt (b++[mkU c.Tag]) (strOf c.B) (by rw [List.length_append]; simp only [List.length_cons,List.length_nil]; omega) (by rw [strOf_size]; exact hc)
 rw [← putCell] at tt
 exact D0 (tt)
def x_Ax:FnX:=⟨56,[.tmp 4],
  .q [.v 3 1,.op 4 (.mv (.k (.one (.nils 1))))]
 (.q [.m 6 0,.op 7 (.bslice 1 [(.t 6)]),.c 8 100 [7],.m 5 8]
 (.seq (.q [.L 9 7 3,.c 10 253 [9],.N 11 10]
 (.c 11 (.q [.m 12 5,.m 4 12]
 .ret)))
 (.seq (.draw [.m 13 5,.f 14 3 0,.l 15 14,.c 16 314 [13,15],.f 17 3 5,.l 18 17,.op 19 (.conv (.int .u8) (.t 18)),.f 20 3 6,.l 21 20,.c 22 352 [21],.op 23 (.bslice 1 [(.t 19),(.t 22)]),.op 24 (.app 1 1 (.t 16) (.t 23)),.m 5 24] [[],[],[1],[0,2],[],[4],[5],[],[7],[8,3],[6,9],[3,10,9],[11,11,0,1,2,3,4,5,6,7,8,9,10,11]])
 (.seq (.q [.f 25 3 5,.l 26 25,.B 27 .neq 26 2]
 (.c 27 (.draw [.m 28 5,.f 29 3 1,.f 30 29 0,.l 31 30,.op 32 (.conv (.int .u8) (.t 31)),.op 33 (.bslice 1 [(.t 32)]),.op 34 (.app 1 1 (.t 28) (.t 33)),.f 35 3 1,.f 36 35 1,.l 37 36,.op 38 (.conv .b2s (.t 37)),.c 39 314 [34,38],.m 5 39] [[],[],[1],[2],[3],[4],[0,5],[],[7],[8],[9],[6,10,6],[11,11,0,1,2,3,4,5,6,7,8,9,10,11]])))
 (.seq (.q [.f 40 3 5,.l 41 40,.B 42 .neq 41 1]
 (.c 42 (.draw [.m 43 5,.f 44 3 3,.f 45 44 0,.l 46 45,.op 47 (.conv (.int .u8) (.t 46)),.op 48 (.bslice 1 [(.t 47)]),.op 49 (.app 1 1 (.t 43) (.t 48)),.f 50 3 3,.f 51 50 1,.l 52 51,.op 53 (.conv .b2s (.t 52)),.c 54 314 [49,53],.m 5 54] [[],[],[1],[2],[3],[4],[0,5],[],[7],[8],[9],[6,10,6],[11,11,0,1,2,3,4,5,6,7,8,9,10,11]])))
 (.q [.m 55 5,.m 4 55]
 .ret))))))⟩
theorem r_Ax {Te:TE} (c_C1:C_C1 Te) (c_B6:C_B6 Te) (c_Az:C_Az Te) (c_Bx:C_Bx Te):C_Ax (RF Te x_Ax):=by
 intro b r hb h
 obtain ⟨h1,h2,h3⟩:=h
 have ea:=areBytes_uR r.Old.B
 have fa:=bytesOf_uR r.Old.B
 have eb:=areBytes_uR r.New.B
 have fb:=bytesOf_uR r.New.B
 have l0:=putText_len b r.Key
 have l1:=putRow1_len b r
 have l2:=putRow2_len b r
 refine X0 x_Ax.eq_1 ?_
 refine .of (c_C1 [b] (by rw [flat1]; omega) (by show 1≤2 ^ 31; decide)) ?_
 try simp -implicitDefEqProofs (maxSteps:=1000000) only [go_sem,flat1]
 repeat refine ⟨sc,?_⟩
 try exact sf
 refine C0 (c_B6 r ⟨h1,h2,h3⟩) ?_
 cases g:r.ok
 ·try simp -implicitDefEqProofs (maxSteps:=1000000) only [go_sem,putRow,g,if_false,reduceCtorEq]
  repeat refine ⟨sc,?_⟩
  try exact sf
 have ep:putRow b r=putRow3 b r:=if_pos g
 refine G0 ?_
 refine C0 (c_Az b r.Key (by omega) h1) ?_
 refine .of (c_Bx r.Aside) ?_
 try simp -implicitDefEqProofs (maxSteps:=1000000) only [go_sem,mkU_wrap,app2B,take2B]
 repeat refine ⟨sc,?_⟩
 try exact sf
 have e1:putText b r.Key++[mkU r.Has,bif r.Aside then 1 else 0]=putRow1 b r:=rfl
 have e2:(putText b r.Key).length + 2=(putRow1 b r).length:=by rw [putRow1,List.length_append]; rfl
 simp only [e1,e2]
 have gw:=win13 (rowOk_win g)
 by_cases q2:r.Has=2
 ·have k2:(r.Has != 2)=false:=by simp only [bne_eq_false_iff_eq]; exact q2
  have k1:(r.Has != 1)=true:=by simp only [bne_iff_ne,ne_eq]; omega
  have e3:putRow2 b r=putRow1 b r:=if_pos q2
  have e4:putRow3 b r=putCell (putRow1 b r) r.New:=by rw [putRow3,if_neg (by omega),e3]
  try simp -implicitDefEqProofs (maxSteps:=1000000) only [go_sem,k2,k1,eb,fb,mkU_wrap,app1B,take1B]
  repeat refine ⟨sc,?_⟩
  try exact sf
  have tt:=c_Az (putRow1 b r++[mkU r.New.Tag]) (strOf r.New.B) (by rw [List.length_append]; simp only [List.length_cons,List.length_nil]; omega) (by rw [strOf_size]; exact h3)
  rw [← putCell] at tt
  exact D2 (tt) ep e4
 ·have k2:(r.Has != 2)=true:=by simp only [bne_iff_ne,ne_eq]; exact q2
  have e3:putRow2 b r=putCell (putRow1 b r) r.Old:=if_neg q2
  try simp -implicitDefEqProofs (maxSteps:=1000000) only [go_sem,k2,ea,fa,mkU_wrap,app1B,take1B]
  repeat refine ⟨sc,?_⟩
  try exact sf
  have tt:=c_Az (putRow1 b r++[mkU r.Old.Tag]) (strOf r.Old.B) (by rw [List.length_append]; simp only [List.length_cons,List.length_nil]; omega) (by rw [strOf_size]; exact h2)
  rw [← putCell,← e3] at tt
  refine C0 (tt) ?_
  by_cases q1:r.Has=1
  ·have k1:(r.Has != 1)=false:=by simp only [bne_eq_false_iff_eq]; exact q1
   have e4:putRow3 b r=putRow2 b r:=if_pos q1
   exact F3 k1 ep e4
  ·have k1:(r.Has != 1)=true:=by simp only [bne_iff_ne,ne_eq]; exact q1
   have e4:putRow3 b r=putCell (putRow2 b r) r.New:=if_neg q1
   try simp -implicitDefEqProofs (maxSteps:=1000000) only [go_sem,k1,eb,fb,mkU_wrap,app1B,take1B]
   repeat refine ⟨sc,?_⟩
   try exact sf
   have tt:=c_Az (putRow2 b r++[mkU r.New.Tag]) (strOf r.New.B) (by rw [List.length_append]; simp only [List.length_cons,List.length_nil]; omega) (by rw [strOf_size]; exact h3)
   rw [← putCell] at tt
   exact D2 (tt) ep e4
def x_Bn:FnX:=⟨18,[.cell 2 (some 4),.tmp 3],
  .q [.v 1 0,.op 2 (.alloc [.nils 1,.nils 2,.i 0,.F]),.F 3]
 (.seq (.q [.f 4 1 2,.l 5 4,.B 6 .eql 5 0]
 (.c 6 (.q [.f 7 1 3,⟨none,none,100001,.store 1 (.t 7) .T⟩,.f 8 1 2,⟨none,none,100002,.store 1 (.t 8) (.i (-1))⟩]
 (.q [.L 9 4 1,.s 100003 4 2 9,.F 3]
 .ret))))
 (.seq (.q [.f 10 1 2,.l 11 10,.B 12 .gtr 11 0]
 (.c 12 (.reg [.f 13 1 2,.l 14 13,.B 15 .sub 14 1,.f 16 1 2,.s 100004 1 16 15])))
 (.q [.L 17 4 1,.s 100005 4 2 17,.T 3]
 .ret)))⟩
theorem r_Bn {Te:TE}:C_Bn (RF Te x_Bn):=by
 intro d
 refine run0 ?_
 cases g:(d.Fuse==0)
 ·have g1:¬ d.Fuse=0:=by simpa using g
  cases g2:decide (d.Fuse > 0)
  ·have e:d.burn=d:=by rw [DevV.burn,if_neg g1,if_neg (by simpa using g2)]
   simp -implicitDefEqProofs (maxSteps:=1000000) only [x_Bn,go_sem,g,g2,e,take_all]
   repeat refine ⟨sc,?_⟩
   try exact sf
   try rfl
  ·have e:d.burn=⟨d.Secs,d.Cache,IntKind.i64.wrap (d.Fuse - 1),d.Down⟩:=by rw [DevV.burn,if_neg g1,if_pos (by simpa using g2)]
   simp -implicitDefEqProofs (maxSteps:=1000000) only [x_Bn,go_sem,g,g2,e,take_all]
   repeat refine ⟨sc,?_⟩
   try exact sf
   try rfl
 ·have g1:d.Fuse=0:=by simpa using g
  have e:d.burn=⟨d.Secs,d.Cache,-1,true⟩:=by rw [DevV.burn,if_pos g1]
  simp -implicitDefEqProofs (maxSteps:=1000000) only [x_Bn,go_sem,g,e,take_all]
  repeat refine ⟨sc,?_⟩
  try exact sf
  try rfl
def x_Ef:FnX:=⟨27,[.tmp 2],
  .q [.F 2]
 (.seq (.q [.m 3 0,.op 4 (.nilc (.t 3)),.f 5 4 2,.l 6 5,.B 7 .eql 6 0]
 (.c 7 (.q [.m 8 0,.op 9 (.nilc (.t 8)),.f 10 9 3,⟨none,none,100001,.store 1 (.t 10) .T⟩]
 (.q [.m 11 0,.op 12 (.nilc (.t 11)),.f 13 12 2,⟨none,none,100002,.store 1 (.t 13) (.i (-1))⟩]
 (.q [.F 2]
 .ret)))))
 (.seq (.q [.m 14 0,.op 15 (.nilc (.t 14)),.f 16 15 2,.l 17 16,.B 18 .gtr 17 0]
 (.c 18 (.reg [.m 19 0,.m 20 0,.op 21 (.nilc (.t 20)),.f 22 21 2,.l 23 22,.B 24 .sub 23 1,.op 25 (.nilc (.t 19)),.f 26 25 2,.s 100003 1 26 24])))
 (.q [.T 2]
 .ret)))⟩
theorem r_Ef {Te:TE}:C_Ef (RF Te x_Ef):=by
 intro d
 refine run0 ?_
 cases g:(d.Fuse==0)
 ·have g1:¬ d.Fuse=0:=by simpa using g
  cases g2:decide (d.Fuse > 0)
  ·have e:d.burn=d:=by rw [DevV.burn,if_neg g1,if_neg (by simpa using g2)]
   simp -implicitDefEqProofs (maxSteps:=1000000) only [x_Ef,go_sem,g,g2,e,take_all]
   repeat refine ⟨sc,?_⟩
   try exact sf
   try rfl
  ·have e:d.burn=⟨d.Secs,d.Cache,IntKind.i64.wrap (d.Fuse - 1),d.Down⟩:=by rw [DevV.burn,if_neg g1,if_pos (by simpa using g2)]
   simp -implicitDefEqProofs (maxSteps:=1000000) only [x_Ef,go_sem,g,g2,e,take_all]
   repeat refine ⟨sc,?_⟩
   try exact sf
   try rfl
 ·have g1:d.Fuse=0:=by simpa using g
  have e:d.burn=⟨d.Secs,d.Cache,-1,true⟩:=by rw [DevV.burn,if_pos g1]
  simp -implicitDefEqProofs (maxSteps:=1000000) only [x_Ef,go_sem,g,e,take_all]
  repeat refine ⟨sc,?_⟩
  try exact sf
  try rfl
def x_Bi:FnX:=⟨56,[.cell 6 (some 4)],
  .q [.v 3 0,.op 6 (.alloc [.nils 1,.nils 2,.i 0,.F])]
 (.q [.L 9 4 3,.c 10 245 [9],.op 7 (.alloc [.nils 1,.nils 2,.i 0,.F]),.s 100001 4 7 10]
 (.seq (.q [.L 11 4 3,.c 12 178 [11],.N 13 12,.m 14 13,.z 14 (.f 15 3 3),.z 14 (.l 16 15),.r 17 14 16,.m 18 17,.z 18 (.m 19 1),.z 18 (.f 20 3 0),.z 18 (.l 21 20),.z 18 (.n 22 21),.z 18 (.B 23 .sub 22 1),.z 18 (.op 24 (.call 90 [0,0,0] [(.t 19),(.i 0),(.t 23)])),.z 18 (.N 25 24),.r 26 18 25,.m 27 26,.z 27 (.m 28 2),.z 27 (.n 29 28),.z 27 (.B 30 .gtr 29 120),.r 31 27 30,.m 32 31,.z 32 (.f 33 3 1),.z 32 (.l 34 33),.z 32 (.n 35 34),.z 32 (.B 36 .eql 35 40),.r 37 32 36]
 (.c 37 (.q [.L 38 4 7,.s 100002 4 6 38]
 .ret)))
 (.q [.L 40 4 7,.op 41 (.call 311 [1] [(.t 40)]),.m 39 41,.e 42 39 0,.e 43 39 1,.s 100003 4 7 42,.m 8 43]
 (.seq (.q [.m 44 8]
 (.c 44 (.draw [.f 45 7 1,.l 46 45,.m 47 1,.m 48 2,.op 49 (.bslice 1 [(.t 48)]),.c 50 100 [49],.op 51 (.build [.i 0,.nils 1] [(0,1,(.t 47)),(1,1,(.t 50))]),.op 52 (.bslice 2 [(.t 51)]),.op 53 (.app 2 32 (.t 46) (.t 52)),.f 54 7 1,.s 100004 1 54 53] [[],[0],[],[],[3],[4],[2,5],[6],[1,7,5],[0,1,2,3,4,5,6,7,8],[9,8,8,0,1,2,3,4,5,6,7,8]])))
 (.q [.L 55 4 7,.s 100005 4 6 55]
 .ret)))))⟩
theorem r_Bi {Te:TE} (c_Bq:C_Bq Te) (c_Ab:C_Ab Te) (c_Ch:C_Ch Te) (c_Bn:C_Bn Te) (c_C1:C_C1 Te):C_Bi (RF Te x_Bi):=by
 intro d n b hk hb
 have hin:=DevV.ok_in hk
 have hL:=hin.len (by decide)
 have hl:=hin.1.1
 have h40:=DevV.ok_cache hk
 have ws:IntKind.i64.wrap ((d.Secs.length:Int) - 1)=(d.Secs.length:Int) - 1:=IntWalk.i64_in _ (by omega)
 refine X0 x_Bi.eq_1 ?_
 refine C0 (c_Bq d hL) ?_
 refine C1 (c_Ab d (hin.mono (by decide))) hk ?_
 cases g1:d.Down
 rotate_left
 ·have e:=full_down (n:=n) (b:=b) g1
  try simp -implicitDefEqProofs (maxSteps:=1000000) only [go_sem,g1,e,take_all,DevV.enc]
  repeat refine ⟨sc,?_⟩
  try exact sf
  try rfl
 refine G2 g1 ws ?_
 refine C0 (c_Ch _ _ _) ?_
 cases g2:win n 0 ((d.Secs.length:Int) - 1)
 ·have e:=full_win (b:=b) g2
  try simp -implicitDefEqProofs (maxSteps:=1000000) only [go_sem,e,take_all,g1,DevV.enc]
  repeat refine ⟨sc,?_⟩
  try exact sf
  try rfl
 cases g3:decide ((b.length:Int) > 120)
 rotate_left
 ·have e:=full_len (d:=d) (n:=n) g3
  try simp -implicitDefEqProofs (maxSteps:=1000000) only [go_sem,g3,e,take_all,g1,DevV.enc]
  repeat refine ⟨sc,?_⟩
  try exact sf
  try rfl
 cases g4:decide ((d.Cache.length:Int)≥40)
 rotate_left
 ·have g5:((d.Cache.length:Int)==40)=true:=by simp only [decide_eq_true_eq] at g4; simp only [beq_iff_eq]; omega
  have e:=full_cache (n:=n) (b:=b) g4
  try simp -implicitDefEqProofs (maxSteps:=1000000) only [go_sem,g3,g5,e,take_all,g1,DevV.enc]
  repeat refine ⟨sc,?_⟩
  try exact sf
  try rfl
 have g5:((d.Cache.length:Int)==40)=false:=by simp only [decide_eq_false_iff_not] at g4; simp only [beq_eq_false_iff_ne]; omega
 have e:=not_full g1 g2 g3 g4
 refine G2 g3 g5 ?_
 have tb:=c_Bn d
 simp only [DevV.enc,g1] at tb
 have bc:=burn_cache d
 have g40:d.burn.Cache.length < 40:=by rw [bc]; simp only [decide_eq_false_iff_not] at g4; omega
 cases g6:(d.Fuse==0)
 ·have g7:¬ d.Fuse=0:=by simpa using g6
  rw [if_neg g7] at e
  have ea:=app1W d.burn.Cache ⟨n,b⟩
  have et:List.take (d.burn.Cache.length + 1) (List.map (WrV.enc true) (d.burn.Cache++[⟨n,b⟩]))=List.map (WrV.enc true) (d.burn.Cache++[⟨n,b⟩]):=List.take_of_length_le (by simp)
  refine C1 (tb) g6 ?_
  refine .of (c_C1 [b] (by rw [flat1]; omega) (by show 1≤2 ^ 31; decide)) ?_
  try simp -implicitDefEqProofs (maxSteps:=1000000) only [go_sem,flat1,take_all,ea,et,e,g1,DevV.put,DevV.enc]
  repeat refine ⟨sc,?_⟩
  try exact sf
  try rfl
 ·have g7:d.Fuse=0:=by simpa using g6
  rw [if_pos g7] at e
  refine .of (tb) ?_
  try simp -implicitDefEqProofs (maxSteps:=1000000) only [go_sem,g6,take_all,e,g1,DevV.enc]
  repeat refine ⟨sc,?_⟩
  try exact sf
  try rfl
def x_Ey:FnX:=⟨20,[.cell 4 (some 9)],
  .q [.op 4 (.alloc [.nils 1,.nils 2,.i 0,.F,.nils 7,.i 0,.nils 3,.i 0,.i 0])]
 (.q [.c 7 122 [],.op 5 (.alloc [.nils 1,.nils 2,.i 0,.F,.nils 7,.i 0,.nils 3,.i 0,.i 0]),.s 100001 9 5 7]
 (.seq (.q [.m 8 0,.m 9 1,.B 10 .add 9 1,.op 11 (.call 96 [5,0] [(.t 8),(.t 10)]),.m 6 11]
 (.block 0 (.loop [0,4,5,6] (.seq (.q [.m 12 6,.B 13 .gtr 12 0]
 (.cond 13 .skip (.exit 0)))
 (.seq (.block 1 (.reg [.m 16 0,.op 17 (.call 316 [5] [(.t 16)]),.op 18 (.call 103 [11,0] [(.t 5),(.t 17)])]))
 (.reg [.m 14 6,.B 15 .sub 14 1,.m 6 15]))))))
 (.norm [4,5] (.q [.L 19 9 5,.s 100002 9 4 19]
 .ret))))⟩
theorem r_Ey {Te:TE} (c_D8:C_D8 Te) (c_Fk:C_Fk Te) (c_Ej:C_Ej Te) (c_Eu:C_Eu Te):∀ (c:CurV) (hc:c.ok),∃ r0,(∃ (s:StoreV) (d:CurV),(s.still 5∧d.ok)∧r0=(⟨[.agg (s.enc true)],[d.enc,[iT 4]]⟩:Res))∧RunFn Te x_Ey [.ptr c.enc,.one (iT 4)] r0:=by
 intro c hc
 refine some_of (Nat.le_of_ble_eq_true rfl) (by rfl) ?_
 have w1:IntKind.i64.wrap (4 + 1)=5:=rfl
 simp -implicitDefEqProofs (maxSteps:=1000000) only [x_Ey,go_sem]
 repeat refine ⟨sc,?_⟩
 try exact sf
 refine C1 (c_D8) w1 ?_
 obtain ⟨k,d0,⟨⟨hk0,hk1,_⟩,hd0⟩,ht⟩:=c_Fk c 5 hc
 have hk5:=hk1 (by decide)
 obtain ⟨K,rfl⟩:∃ K:Nat,k=K:=⟨k.toNat,by omega⟩
 have hf:=fmt_still
 generalize fmt=s0 at hf
 refine C0 (ht) ?_
 refine loop_of (σ:=Nat×StoreV×Bool×Bool×CurV) (fun x=>cond x.2.2.1 ⟨[(0,.bp 0 0),(4,.bp 4 0),(5,.bp 5 0),(6,.one (.pv (.int .i64 x.1)))],[(0,[.ro 1 (x.2.2.2.2.b.map uR),.pv (.int .i64 x.2.2.2.2.i),.pv (.int .i64 x.2.2.2.2.h)]),(4,[.nils 1,.nils 2,.pv (.int .i64 0),.pv (.bool false),.nils 7,.pv (.int .i64 0),.nils 3,.pv (.int .i64 0),.pv (.int .i64 0)]),(5,[.rf 22 0 [] 1 0 x.2.1.D.Secs.length,.rf 22 1 [] 2 0 x.2.1.D.Cache.length,.pv (.int .i64 x.2.1.D.Fuse),.pv (.bool x.2.1.D.Down),.rf 22 4 [] 7 0 x.2.1.T.Rows.length,.pv (.int .i64 x.2.1.T.Phase),.rf 22 6 [] 3 0 x.2.1.T.Marks.length,.pv (.int .i64 x.2.1.Gen),.pv (.int .i64 x.2.1.Place)])],[(0,c.enc),(1,[iT 4]),(22,x.2.1.enc true)]⟩ ⟨[(0,.bp 0 0),(4,.bp 4 0),(5,.bp 5 0),(6,.one (.pv (.int .i64 x.1)))],[(0,[.ro 1 (x.2.2.2.2.b.map uR),.pv (.int .i64 x.2.2.2.2.i),.pv (.int .i64 x.2.2.2.2.h)]),(4,[.nils 1,.nils 2,.pv (.int .i64 0),.pv (.bool false),.nils 7,.pv (.int .i64 0),.nils 3,.pv (.int .i64 0),.pv (.int .i64 0)]),(5,[.rf 22 1 [] 1 0 x.2.1.D.Secs.length,.rf 22 2 [] 2 0 x.2.1.D.Cache.length,.pv (.int .i64 x.2.1.D.Fuse),.pv (.bool x.2.1.D.Down),.rf 22 5 [] 7 0 x.2.1.T.Rows.length,.pv (.int .i64 x.2.1.T.Phase),.rf 22 7 [] 3 0 x.2.1.T.Marks.length,.pv (.int .i64 x.2.1.Gen),.pv (.int .i64 x.2.1.Place)])],[(0,c.enc),(1,[iT 4]),(22,bT x.2.2.2.1::x.2.1.enc true)]⟩) (fun x=>x.1≤K∧x.2.1.still (1 + ((K:Int) - x.1))∧x.2.2.2.2.ok) (fun x=>x.1) (K,s0,true,true,d0) ?_ ⟨Nat.le_refl _,hf.mono (by simp only; omega),hd0⟩ ?_
 ·simp -implicitDefEqProofs (maxSteps:=1000000) only [go_sem]
  try rfl
 ·rintro ⟨i,s,b,b2,d⟩ ⟨hi,hs,hd⟩
  simp only at hi hs hd
  cases q:decide ((i:Int) > 0)
  ·cases b
   ·refine G1 q ?_
    exact ⟨s,d,⟨hs.mono (by omega),hd⟩,rfl⟩
   ·refine G1 q ?_
    exact ⟨s,d,⟨hs.mono (by omega),hd⟩,rfl⟩
  ·have q':=q
   simp only [decide_eq_true_eq] at q'
   have w2:IntKind.i64.wrap ((i:Int) - 1)=((i - 1:Nat):Int):=by rw [IntWalk.i64_in _ (by omega)]; omega
   obtain ⟨r,d2,⟨hr,hd2⟩,ht⟩:=c_Ej d hd
   have tA:=c_Eu s r hs.1 hs.2.1 (StoreV.ok_in hs.1).2 hr
   cases b
   ·refine G1 q ?_
    refine C0 (ht) ?_
    refine C1 (tA) w2 ?_
    exact ⟨(i - 1,(s.add r).1,false,(s.add r).2,d2),rfl,⟨by simp only; omega,(add_still r hs (by omega)).mono (by simp only; omega),hd2⟩,by simp only; omega⟩
   ·refine G1 q ?_
    refine C0 (ht) ?_
    refine C1 (tA) w2 ?_
    exact ⟨(i - 1,(s.add r).1,false,(s.add r).2,d2),rfl,⟨by simp only; omega,(add_still r hs (by omega)).mono (by simp only; omega),hd2⟩,by simp only; omega⟩
def x_G0:FnX:=⟨6,[.tmp 2],
  .q [.i 2 0]
 (.q [.m 3 0,.op 4 (.call 96 [5,0] [(.t 3),(.i 5)]),.op 5 (.bin .add (.i 1) (.t 4)),.m 2 5]
 .ret)⟩
theorem r_G0 {Te:TE} (c_Fk:C_Fk Te):∀ (c:CurV) (hc:c.ok),∃ r0,(∃ (r:Int) (d:CurV),((1≤r∧r≤5)∧d.ok)∧r0=(⟨[.one (iT r)],[d.enc]⟩:Res))∧RunFn Te x_G0 [.ptr c.enc] r0:=by
 intro c hc
 refine some_of (Nat.le_of_ble_eq_true rfl) (by rfl) ?_
 simp -implicitDefEqProofs (maxSteps:=1000000) only [x_G0,go_sem]
 repeat refine ⟨sc,?_⟩
 try exact sf
 obtain ⟨k,d,⟨⟨hk0,hk1,_⟩,hd⟩,ht⟩:=c_Fk c 5 hc
 have hk5:=hk1 (by decide)
 have w:IntKind.i64.wrap (1 + k)=1 + k:=IntWalk.i64_in _ (by omega)
 refine C1 (ht) w ?_
 exact ⟨1 + k,d,⟨⟨by omega,by omega⟩,hd⟩,rfl⟩
def x_G4:FnX:=⟨32,[.tmp 4],
  .q [.op 4 (.mv (.k (.one (.nils 1))))]
 (.q [.m 8 1,.m 9 0,.m 10 1,.op 11 (.call 106 [5,0,0] [(.t 9),(.t 10),(.i 5)]),.c 12 182 [8,11],.m 7 12,.e 13 7 0,.e 14 7 1,.m 5 13,.m 6 14]
 (.seq (.q [.m 15 0,.op 16 (.call 96 [5,0] [(.t 15),(.i 5)])]
 (.block 0 (.q [.B 18 .eql 16 0,.m 17 18]
 (.cond 17 (.q [.m 19 0,.m 20 5,.op 21 (.call 183 [5,1] [(.t 19),(.t 20)]),.m 4 21]
 .ret) (.q [.B 23 .eql 16 1,.m 22 23]
 (.c 22 (.q [.m 24 5,.m 25 0,.op 26 (.bslice 1 [(.i 128),(.i 129),(.i 164),(.i 255),(.i 194),(.i 157)]),.op 27 (.call 70 [5,1] [(.t 25),(.t 26)]),.op 28 (.conv (.int .u8) (.t 27)),.op 29 (.bslice 1 [(.t 28)]),.op 30 (.app 1 1 (.t 24) (.t 29)),.m 4 30]
 .ret)))))))
 (.q [.m 31 5,.m 4 31]
 .ret)))⟩
theorem r_G4 {Te:TE} (c_G9:C_G9 Te) (c_D5:C_D5 Te) (c_Fk:C_Fk Te) (c_Fl:C_Fl Te) (c_Fp:C_Fp Te):∀ (c:CurV) (cs:Int) (hc:c.ok),∃ r0,(∃ (b:List UInt8) (d:CurV),(b.length≤81∧d.ok)∧r0=(⟨[.one (slT true 1 uR b)],[d.enc,[iT cs]]⟩:Res))∧RunFn Te x_G4 [.ptr c.enc,.one (iT cs)] r0:=by
 intro c cs hc
 refine some_of (Nat.le_of_ble_eq_true rfl) (by rfl) ?_
 simp -implicitDefEqProofs (maxSteps:=1000000) only [x_G4,go_sem]
 repeat refine ⟨sc,?_⟩
 try exact sf
 obtain ⟨s,d,⟨hs,hd⟩,ht⟩:=c_G9 c cs 5 hc (by decide)
 replace hs:s.size≤20:=hs
 have hl:=encode_len cs s
 refine C0 (ht) ?_
 refine C0 (c_D5 cs s (by omega)) ?_
 obtain ⟨k,d1,⟨⟨hk0,hk1,_⟩,hd1⟩,ht⟩:=c_Fk d 5 hd
 have hk5:=hk1 (by decide)
 by_cases q0:k=0
 ·subst q0
  obtain ⟨r,d2,⟨hr,hd2⟩,ht2⟩:=c_Fl d1 (encode cs s).1 hd1 (by omega)
  refine C0 (ht) ?_
  refine C0 (ht2) ?_
  exact ⟨r,d2,⟨by omega,hd2⟩,rfl⟩
 by_cases q1:k=1
 ·subst q1
  obtain ⟨v,d2,⟨_,hd2⟩,ht2⟩:=c_Fp d1 [128,129,164,255,194,157] hd1 (by decide)
  have ea:=one_byte (encode cs s).1 v
  have et:List.take ((encode cs s).1.length + 1) (List.map uR ((encode cs s).1++[mkU v]))=List.map uR ((encode cs s).1++[mkU v]):=List.take_of_length_le (by simp)
  refine C0 (ht) ?_
  refine C2 (ht2) ea et ?_
  exact ⟨(encode cs s).1++[mkU v],d2,⟨by simp only [List.length_append,List.length_cons,List.length_nil]; omega,hd2⟩,rfl⟩
 have e:∀ j:Int,k≠j→(k==j)=false:=fun j h=>by simpa using h
 refine .of (ht) ?_
 try simp -implicitDefEqProofs (maxSteps:=1000000) only [go_sem,e 0 q0,e 1 q1]
 repeat refine ⟨sc,?_⟩
 try exact sf
 exact ⟨(encode cs s).1,d1,⟨by omega,hd1⟩,rfl⟩
def x_G9:FnX:=⟨25,[.tmp 6],
  .q [.op 6 (.mv (.k (.one (.pv (.string ⟨#[]⟩)))))]
 (.q [.op 9 (.bslice 1 []),.m 7 9]
 (.seq (.q [.m 10 0,.m 11 2,.B 12 .add 11 1,.op 13 (.call 96 [5,0] [(.t 10),(.t 12)]),.m 8 13]
 (.block 0 (.loop [0,1,7,8] (.seq (.q [.m 14 8,.B 15 .gtr 14 0]
 (.cond 15 .skip (.exit 0)))
 (.seq (.block 1 (.reg [.m 18 7,.m 19 0,.m 20 1,.op 21 (.call 198 [5,0] [(.t 19),(.t 20)]),.c 22 189 [18,21],.m 7 22]))
 (.reg [.m 16 8,.B 17 .sub 16 1,.m 8 17]))))))
 (.norm [7] (.q [.m 23 7,.op 24 (.conv .b2s (.t 23)),.m 6 24]
 .ret))))⟩
theorem r_G9 {Te:TE} (c_Fk:C_Fk Te) (c_G8:C_G8 Te) (c_Ds:C_Ds Te):∀ (c:CurV) (cs most:Int) (hc:c.ok) (hm:0≤most∧most≤100),∃ r0,(∃ (r:ByteArray) (d:CurV),(r.size≤4 * most.toNat∧d.ok)∧r0=(⟨[.one (sT r)],[d.enc,[iT cs],[iT most]]⟩:Res))∧RunFn Te x_G9 [.ptr c.enc,.one (iT cs),.one (iT most)] r0:=by
 intro c cs most hc hm
 refine some_of (Nat.le_of_ble_eq_true rfl) (by rfl) ?_
 have w1:IntKind.i64.wrap (most + 1)=most + 1:=IntWalk.i64_in _ (by omega)
 simp -implicitDefEqProofs only [x_G9,go_sem,w1]
 repeat refine ⟨sc,?_⟩
 try exact sf
 obtain ⟨k,d0,⟨hk,hd0⟩,ht⟩:=c_Fk c (most + 1) hc
 have hk1:=hk.2.1 (by omega)
 obtain ⟨K,rfl⟩:∃ K:Nat,k=K:=⟨k.toNat,by omega⟩
 refine C0 (ht) ?_
 refine loop_of (σ:=Nat×List UInt8×CurV) (fun x=>⟨[(0,.bp 0 0),(1,.one (.pv (.int .i64 cs))),(7,.one (.rf 28 0 [] 1 0 x.2.1.length)),(8,.one (.pv (.int .i64 x.1)))],[(0,[.ro 1 (x.2.2.b.map uR),.pv (.int .i64 x.2.2.i),.pv (.int .i64 x.2.2.h)])],[(0,c.enc),(1,[iT cs]),(2,[iT most]),(28,[slT true 1 uR x.2.1])]⟩) (fun x=>x.1≤K∧x.2.1.length≤4 * (K - x.1)∧x.2.2.ok) (fun x=>x.1) (K,[],d0) ?_ ⟨Nat.le_refl _,Nat.zero_le _,hd0⟩ ?_
 ·simp -implicitDefEqProofs only [go_sem]
  rfl
 ·rintro ⟨i,b,d⟩ ⟨hi,hb,hd⟩
  simp only at hi hb hd
  cases q:decide ((i:Int) > 0)
  ·refine G1 q ?_
   have hi0:i=0:=by simp only [decide_eq_false_iff_not] at q; omega
   refine ⟨areBytes_uL b,⟨(bytesOf (b.map uR)).toArray⟩,d,⟨?_,hd⟩,rfl⟩
   show (bytesOf (b.map uR)).length≤_
   rw [bytesOf_uL]
   omega
  ·simp only [decide_eq_true_eq] at q
   have w2:IntKind.i64.wrap ((i:Int) - 1)=((i - 1:Nat):Int):=by rw [IntWalk.i64_in _ (by omega)]; omega
   obtain ⟨r,d1,hd1,ht⟩:=c_G8 d cs hd
   have q':decide ((i:Int) > 0)=true:=decide_eq_true q
   refine G1 q' ?_
   refine C0 (ht) ?_
   refine C1 (c_Ds b r (by omega)) w2 ?_
   have hl:=putSign_len b r
   exact ⟨(i - 1,putSign b r,d1),rfl,⟨by simp only; omega,by simp only; omega,hd1⟩,by simp only; omega⟩
def x_E7:FnX:=⟨32,[.tmp 2],
  .q [.i 2 0]
 (.q [.i 3 65535]
 (.seq (.q [.i 4 0]
 (.block 0 (.loop [0,3,4] (.seq (.q [.m 6 4,.m 7 0,.n 8 7,.b 9 .lss 6 8]
 (.cond 9 .skip (.exit 0)))
 (.seq (.block 1 (.q [.m 12 3,.m 13 0,.m 14 4,.x 15 1 13 14,.l 16 15,.op 17 (.conv (.int .i64) (.t 16)),.op 18 (.bin .shl (.t 17) (.k (.one (.pv (.int .u64 8))))),.b 19 .xor 12 18,.m 3 19]
 (.q [.i 5 0]
 (.block 2 (.loop [0,3,4,5] (.seq (.q [.m 20 5,.B 21 .lss 20 8]
 (.cond 21 .skip (.exit 2)))
 (.seq (.block 3 (.q [.m 24 3,.op 25 (.bin .shl (.t 24) (.k (.one (.pv (.int .u64 1))))),.m 3 25]
 (.q [.m 26 3,.B 27 .gtr 26 65535]
 (.c 27 (.reg [.m 28 3,.B 29 .xor 28 69665,.m 3 29])))))
 (.reg [.m 22 5,.B 23 .add 22 1,.m 5 23]))))))))
 (.norm [0,3,4] (.reg [.m 10 4,.B 11 .add 10 1,.m 4 11])))))))
 (.norm [3] (.q [.m 30 3,.B 31 .and 30 65535,.m 2 31]
 .ret))))⟩
theorem r_E7 {Te:TE}:C_E7 (RF Te x_E7):=by
 intro l h
 refine run0 ?_
 simp -implicitDefEqProofs only [x_E7,go_sem]
 refine loop_of (σ:=Nat×Nat) (fun x=>⟨[(0,.one (.ro 1 (l.map uR))),(3,.one (.pv (.int .i64 x.2))),(4,.one (.pv (.int .i64 x.1)))],[],[(0,[slT false 1 uR l])]⟩) (fun x=>x.1≤l.length∧x.2 < 65536∧x.2=(l.take x.1).foldl sumByte 65535) (fun x=>l.length - x.1) (0,65535) ?_ ⟨Nat.zero_le _,by decide,rfl⟩ ?_
 ·simp -implicitDefEqProofs only [go_sem]; rfl
 ·rintro ⟨i,s⟩ ⟨hi,hs,he⟩
  simp only at hi hs he
  simp -implicitDefEqProofs only [go_sem]
  refine ⟨fun h=>?_,fun h=>?_⟩
  ·have hi':i < l.length:=by simp only [decide_eq_true_eq] at h; omega
   have hb:=l[i].toNat_lt
   have e1:IntKind.i64.wrap (l[i].toNat:Int)=(l[i].toNat:Int):=IntWalk.i64_in _ (by omega)
   have e2:IntKind.i64.wrap ((l[i].toNat:Int) * 2 ^ 8)=((256 * l[i].toNat:Nat):Int):=by rw [IntWalk.i64_in _ (by omega)]; omega
   simp -implicitDefEqProofs only [go_sem,List.getElem?_eq_getElem hi',min8,e1,e2,xor_nat s (256 * l[i].toNat) (by omega) (by omega)]
   have hx:=sumX_lt l[i] hs
   have e9:sumByte s l[i]=sumBits 8 (s ^^^ (256 * l[i].toNat)):=rfl
   generalize s ^^^ (256 * l[i].toNat)=S at *
   refine loop_of (σ:=Nat×Nat) (fun x=>⟨[(0,.one (.ro 1 (l.map uR))),(3,.one (.pv (.int .i64 x.2))),(4,.one (.pv (.int .i64 i))),(5,.one (.pv (.int .i64 x.1)))],[],[(0,[slT false 1 uR l])]⟩) (fun x=>x.1≤8∧x.2=sumBits x.1 S) (fun x=>8 - x.1) (0,S) ?_ ⟨Nat.zero_le _,rfl⟩ ?_
   ·simp -implicitDefEqProofs only [go_sem]; rfl
   ·rintro ⟨j,v⟩ ⟨hj,hv⟩
    simp only at hj hv
    have hz:v < 65536:=by rw [hv]; exact sumBits_lt j hx
    have e3:IntKind.i64.wrap ((v:Int) * 2 ^ 1)=((2 * v:Nat):Int):=by rw [IntWalk.i64_in _ (by omega)]; omega
    have e4:=xor_nat (2 * v) 69665 (by omega) (by decide)
    have e5:((69665:Nat):Int)=69665:=rfl
    rw [e5] at e4
    have e6:sumBits (j + 1) S=sumBit v:=by rw [hv]; rfl
    simp -implicitDefEqProofs only [go_sem]
    refine ⟨fun h=>?_,fun h=>?_⟩
    ·have hj':j < 8:=by simp only [decide_eq_true_eq] at h; omega
     simp -implicitDefEqProofs only [go_sem,show Nat.min 1 64=1 from rfl,e3]
     refine ⟨fun h6=>?_,fun h6=>?_⟩
     ·simp -implicitDefEqProofs only [go_sem,e4]
      refine ⟨(j + 1,2 * v ^^^ 69665),by rw [IntWalk.i64_in _ (by omega)]; rfl,⟨hj',?_⟩,by simp only; omega⟩
      rw [e6,sumBit,if_pos (by simp only [decide_eq_true_eq] at h6; omega)]
     ·refine ⟨(j + 1,2 * v),by rw [IntWalk.i64_in _ (by omega)]; rfl,⟨hj',?_⟩,by simp only; omega⟩
      rw [e6,sumBit,if_neg (by simp only [decide_eq_false_iff_not] at h6; omega)]
    ·have hj':j=8:=by simp only [decide_eq_false_iff_not] at h; omega
     subst hj'
     rw [← e9] at hv
     refine ⟨(i + 1,v),by rw [IntWalk.i64_in _ (by omega)]; rfl,⟨hi',hz,?_⟩,by simp only; omega⟩
     simp only
     rw [List.take_succ_eq_append_getElem hi',List.foldl_append,← he,hv,List.foldl_cons,List.foldl_nil]
  ·have hle:l.length≤i:=by simp only [decide_eq_false_iff_not] at h; omega
   rw [List.take_of_length_le hle] at he
   have e7:=and_nat s 65535 (by omega) (by decide)
   have e8:((65535:Nat):Int)=65535:=rfl
   rw [e8] at e7
   simp -implicitDefEqProofs only [go_sem,e7,sum,← he]
def x_B0:FnX:=⟨16,[.tmp 4],
  .q [.op 4 (.mv (.k (.one (.nils 1))))]
 (.q [.m 5 0,.m 6 1,.op 7 (.bin .shr (.t 6) (.k (.one (.pv (.int .u64 8))))),.B 8 .and 7 255,.op 9 (.conv (.int .u8) (.t 8)),.m 10 1,.B 11 .and 10 255,.op 12 (.conv (.int .u8) (.t 11)),.op 13 (.bslice 1 [(.t 9),(.t 12)]),.op 14 (.bslice 1 [(.t 5),(.t 13)]),.c 15 100 [14],.m 4 15]
 .ret)⟩
theorem r_B0 {Te:TE} (c_C1:C_C1 Te):C_B0 (RF Te x_B0):=by
 intro b n h
 refine run0 ?_
 have e1:mkU (n.fdiv (2 ^ 8))=hiB n:=rfl
 simp -implicitDefEqProofs only [x_B0,go_sem,min8,mkU_wrap,and255,e1]
 refine .of (c_C1 [b,[hiB n,mkU n]] (by simp; omega) (by simp)) ?_
 have e2:[b,[hiB n,mkU n]].flatten=putW b n:=by simp [putW]
 simp -implicitDefEqProofs only [go_sem,e2]
def x_Du:FnX:=⟨17,[.tmp 4],
  .q [.op 4 (.mv (.k (.one (.nils 1))))]
 (.q [.op 6 (.bslice 1 []),.m 7 0,.op 8 (.app 1 1 (.t 6) (.t 7)),.m 5 8]
 (.q [.m 9 5,.m 10 1,.op 11 (.bin .shr (.t 10) (.k (.one (.pv (.int .u64 8))))),.op 12 (.conv (.int .u8) (.t 11)),.m 13 1,.op 14 (.conv (.int .u8) (.t 13)),.op 15 (.bslice 1 [(.t 12),(.t 14)]),.op 16 (.app 1 1 (.t 9) (.t 15)),.m 4 16]
 .ret))⟩
theorem r_Du {Te:TE}:C_Du (RF Te x_Du):=by
 intro b n h
 refine run0 ?_
 have e1:mkU (n.fdiv (2 ^ 8))=hiB n:=rfl
 have e2:List.take (b.length + 2) (List.map uR b++[[uT (hiB n)],[uT (mkU n)]])=List.map uR (putW b n):=by rw [List.take_of_length_le (by simp)]; simp [putW]
 simp -implicitDefEqProofs only [x_Du,go_sem,min8,mkU_wrap,e1,e2]
 exact ⟨⟨decide_eq_true (by omega),decide_eq_true (by omega)⟩,decide_eq_true (by omega),decide_eq_true (by omega)⟩
def x_Dt:FnX:=⟨17,[.tmp 4],
  .q [.op 4 (.mv (.k (.one (.nils 1))))]
 (.seq (.q [.m 5 1,.op 6 (.slen (.t 5)),.B 7 .gtr 6 60]
 (.c 7 (.q [.op 8 (.bslice 1 []),.m 9 0,.op 10 (.app 1 1 (.t 8) (.t 9)),.m 4 10]
 .ret)))
 (.q [.m 11 0,.m 12 1,.op 13 (.slen (.t 12)),.c 14 282 [11,13],.m 15 1,.op 16 (.apps 1 1 (.t 14) (.t 15)),.m 4 16]
 .ret))⟩
theorem r_Dt {Te:TE} (c_Du:C_Du Te):C_Dt (RF Te x_Dt):=by
 intro b t h ht
 refine run0 ?_
 simp -implicitDefEqProofs only [x_Dt,go_sem]
 refine ⟨fun q=>?_,fun q=>?_⟩
 ·have q':(t.size:Int) > 60:=by simpa using q
  simp only [putText,if_pos q']
  exact ⟨⟨decide_eq_true (by omega),decide_eq_true (by omega)⟩,trivial⟩
 ·have q':¬ ((t.size:Int) > 60):=by simpa using q
  have q3:t.data.toList.length=t.size:=by rw [Array.length_toList]; rfl
  have el:=putW_len b t.size
  have e1:List.take (b.length + 2) (List.map uR (putW b t.size))=List.map uR (putW b t.size):=List.take_of_length_le (by rw [List.length_map,el]; exact Nat.le_refl _)
  have e2:List.take (b.length + 2 + t.data.toList.length) (List.map uR (putW b t.size)++List.map uR t.data.toList)=List.map uR (putW b t.size++t.data.toList):=by
   rw [List.take_of_length_le (by rw [List.length_append,List.length_map,List.length_map,el]; exact Nat.le_refl _),List.map_append]
  simp only [putText,if_neg q']
  refine .of (c_Du b _ (by omega)) ?_
  try simp -implicitDefEqProofs only [go_sem,ofBytes_eq,el,e1,e2]
  repeat refine ⟨sc,?_⟩
  try exact sf
  try exact decide_eq_true (Nat.le_refl _)
def x_Av:FnX:=⟨36,[.tmp 4,.tmp 5],
  .q [.op 4 (.mv (.k (.one (.nils 1)))),.F 5]
 (.seq (.q [.m 9 1,.op 10 (.call 90 [0,0,0] [(.t 9),(.i 0),(.i 127)])]
 (.c 10 (.q [.m 11 0,.m 12 1,.op 13 (.conv (.int .u8) (.t 12)),.op 14 (.bslice 1 [(.t 13)]),.op 15 (.bslice 1 [(.t 11),(.t 14)]),.c 16 100 [15],.m 4 16,.T 5]
 .ret)))
 (.q [.m 18 1,.c 19 385 [18],.m 17 19,.e 20 17 0,.e 21 17 1,.e 22 17 2,.m 6 20,.m 7 21,.m 8 22]
 (.seq (.q [.m 23 8,.N 24 23]
 (.c 24 (.q [.m 25 0,.op 26 (.bslice 1 [(.t 25)]),.c 27 100 [26],.m 4 27,.F 5]
 .ret)))
 (.q [.m 28 0,.m 29 6,.op 30 (.conv (.int .u8) (.t 29)),.m 31 7,.op 32 (.conv (.int .u8) (.t 31)),.op 33 (.bslice 1 [(.t 30),(.t 32)]),.op 34 (.bslice 1 [(.t 28),(.t 33)]),.c 35 100 [34],.m 4 35,.T 5]
 .ret))))⟩
theorem r_Av {Te:TE} (c_Ch:C_Ch Te) (c_C1:C_C1 Te) (c_Bb:C_Bb Te):C_Av (RF Te x_Av):=by
 intro b n hb
 refine X0 x_Av.eq_1 ?_
 refine C0 (c_Ch _ _ _) ?_
 cases g:win n 0 127
 ·refine G0 ?_
  refine C0 (c_Bb _) ?_
  cases g2:(signPair n).2.2
  ·have e:putEuc b n=(b,false):=by rw [putEuc,g,g2]; rfl
   refine G1 g2 ?_
   refine .of (c_C1 [b] (by rw [flat1]; omega) (by show 1≤2 ^ 31; decide)) ?_
   try simp -implicitDefEqProofs (maxSteps:=1000000) only [go_sem,flat1,e,take_rows]
   repeat refine ⟨sc,?_⟩
   try exact sf
   try rfl
  ·have e:putEuc b n=(b++[mkU (signPair n).1,mkU (signPair n).2.1],true):=by rw [putEuc,g,g2]; rfl
   try simp -implicitDefEqProofs (maxSteps:=1000000) only [go_sem,g2,mkU_wrap]
   repeat refine ⟨sc,?_⟩
   try exact sf
   refine .of (c_C1 [b,[mkU (signPair n).1,mkU (signPair n).2.1]] (by rw [flat2,List.length_append]; simp only [List.length_cons,List.length_nil]; omega) (by show 2≤2 ^ 31; decide)) ?_
   try simp -implicitDefEqProofs (maxSteps:=1000000) only [go_sem,flat2,e,take_rows,take1B,take2B]
   repeat refine ⟨sc,?_⟩
   try exact sf
   try rfl
 ·have e:putEuc b n=(b++[mkU n],true):=by rw [putEuc,g]; rfl
  try simp -implicitDefEqProofs (maxSteps:=1000000) only [go_sem,mkU_wrap]
  repeat refine ⟨sc,?_⟩
  try exact sf
  refine .of (c_C1 [b,[mkU n]] (by rw [flat2,List.length_append]; simp only [List.length_cons,List.length_nil]; omega) (by show 2≤2 ^ 31; decide)) ?_
  try simp -implicitDefEqProofs (maxSteps:=1000000) only [go_sem,flat2,e,take_rows,take1B,take2B]
  repeat refine ⟨sc,?_⟩
  try exact sf
  try rfl
def x_Dp:FnX:=⟨36,[.tmp 4,.tmp 5],
  .q [.op 4 (.mv (.k (.one (.nils 1)))),.F 5]
 (.q [.op 10 (.bslice 1 []),.m 11 0,.op 12 (.app 1 1 (.t 10) (.t 11)),.m 6 12]
 (.seq (.q [.m 13 1,.op 14 (.call 120 [0,0,0] [(.t 13),(.i 0),(.i 127)])]
 (.c 14 (.q [.m 15 6,.m 16 1,.op 17 (.conv (.int .u8) (.t 16)),.op 18 (.bslice 1 [(.t 17)]),.op 19 (.app 1 1 (.t 15) (.t 18)),.m 4 19,.T 5]
 .ret)))
 (.q [.m 21 1,.c 22 355 [21],.m 20 22,.e 23 20 0,.e 24 20 1,.e 25 20 2,.m 7 23,.m 8 24,.m 9 25]
 (.seq (.q [.m 26 9,.N 27 26]
 (.c 27 (.q [.m 28 6,.m 4 28,.F 5]
 .ret)))
 (.q [.m 29 6,.m 30 7,.op 31 (.conv (.int .u8) (.t 30)),.m 32 8,.op 33 (.conv (.int .u8) (.t 32)),.op 34 (.bslice 1 [(.t 31),(.t 33)]),.op 35 (.app 1 1 (.t 29) (.t 34)),.m 4 35,.T 5]
 .ret)))))⟩
theorem r_Dp {Te:TE} (c_Fo:C_Fo Te) (c_E4:C_E4 Te):C_Dp (RF Te x_Dp):=by
 intro b n hb
 refine X0 x_Dp.eq_1 ?_
 refine C0 (c_Fo _ _ _) ?_
 cases g:win n 0 127
 ·refine G0 ?_
  refine C0 (c_E4 _) ?_
  cases g2:(signPair n).2.2
  ·have e:putEuc b n=(b,false):=by rw [putEuc,g,g2]; rfl
   exact F2 g2 e
  ·have e:putEuc b n=(b++[mkU (signPair n).1,mkU (signPair n).2.1],true):=by rw [putEuc,g,g2]; rfl
   try simp -implicitDefEqProofs (maxSteps:=1000000) only [go_sem,g2,mkU_wrap,app2B,take2B,e,take_rows]
   repeat refine ⟨sc,?_⟩
   try exact sf
   try rfl
 ·have e:putEuc b n=(b++[mkU n],true):=by rw [putEuc,g]; rfl
  try simp -implicitDefEqProofs (maxSteps:=1000000) only [go_sem,mkU_wrap,app1B,take1B,e,take_rows]
  repeat refine ⟨sc,?_⟩
  try exact sf
  try rfl
end Go.X

