/- Texts: CVq CVzt CR CVzr_2 CVa CVl_3 CT_3 CS CVzt_4 CVzc. -/
import Derived.Test.YtmmjaijeeeilcaaGreatDoorB04
set_option linter.unusedVariables false
set_option linter.unusedSimpArgs false
namespace Go.X
set_option maxRecDepth 100000
set_option maxHeartbeats 8000000
def x_i_withMark:FnX:=⟨46,[.tmp 4],
  .q [.v 3 1,.op 4 (.mv (.k (.one (.nils 3))))]
 (.q [.op 9 (.bslice 3 []),.m 5 9]
 (.q [.F 6]
 (.seq (.q [.m 10 0,.n 11 10,.i 12 0]
 (.block 0 (.loop [3,5,6,10,11,12] (.q [.b 13 .lss 12 11]
 (.seq (.cond 13 .skip (.exit 0))
 (.seq (.block 1 (.q [.x 14 3 10 12,.L 15 3 14,.op 8 (.alloc [.i 0,.i 0,.i 0]),.s 100001 3 8 15]
 (.seq (.q [.m 16 6,.N 17 16,.m 18 17,.y 18 (.f 19 8 0),.y 18 (.l 20 19),.y 18 (.f 21 3 0),.y 18 (.l 22 21),.y 18 (.b 23 .geq 20 22),.a 24 18 23]
 (.c 24 (.q [.m 25 5,.L 26 3 3,.op 27 (.bslice 3 [(.t 26)]),.op 28 (.app 3 24 (.t 25) (.t 27)),.m 5 28]
 (.reg [.T 6]))))
 (.q [.f 29 8 0,.l 30 29,.f 31 3 0,.l 32 31,.b 33 .neq 30 32]
 (.c 33 (.reg [.m 34 5,.L 35 3 8,.op 36 (.bslice 3 [(.t 35)]),.op 37 (.app 3 24 (.t 34) (.t 36)),.m 5 37]))))))
 (.reg [.B 38 .add 12 1,.m 12 38])))))))
 (.norm [3,5,6] (.seq (.q [.m 39 6,.N 40 39]
 (.c 40 (.reg [.m 41 5,.L 42 3 3,.op 43 (.bslice 3 [(.t 42)]),.op 44 (.app 3 24 (.t 41) (.t 43)),.m 5 44])))
 (.q [.m 45 5,.m 4 45]
 .ret))))))⟩
theorem r_i_withMark {Te:TE}:C_i_withMark (RF Te x_i_withMark):=by
 intro l m h
 refine X0 x_i_withMark.eq_1 ?_
 refine loop_of (σ:=Nat×List MarkV×Bool) (fun x=>⟨[(3,.bp 3 0),(5,.one (.rf 48 0 [] 3 0 x.2.1.length)),(6,.one (.pv (.bool x.2.2))),(10,.one (.ro 3 (l.map MarkV.row))),(11,.one (.pv (.int .i64 l.length))),(12,.one (.pv (.int .i64 x.1)))],[(3,[.pv (.int .i64 m.Who),.pv (.int .i64 m.Seq),.pv (.int .i64 m.Code)])],[(0,[slT false 3 MarkV.row l]),(1,m.row),(48,[slT true 3 MarkV.row x.2.1])]⟩) (fun x=>x.1≤l.length∧x.2=(l.take x.1).foldl (insM m) ([],false)) (fun x=>l.length - x.1) (0,[],false) ?_ ⟨Nat.zero_le _,rfl⟩ ?_
 ·simp -implicitDefEqProofs (maxSteps:=1000000) only [go_sem]
  try rfl
 ·rintro ⟨i,o,p⟩ ⟨hi,he⟩
  simp only at hi he
  have hol:o.length≤2 * l.length:=by
   have:=insM_le m (l.take i) ([],false)
   rw [← he] at this
   simp only [List.length_nil,List.length_take] at this
   omega
  cases q:decide ((i:Int) < (l.length:Int))
  ·have k0:i=l.length:=by simp only [decide_eq_false_iff_not] at q; omega
   rw [k0,List.take_length] at he
   cases p
   ·have e:insMark l m=o++[m]:=by rw [insMark,← he]; rfl
    have ea:=app1M o m
    have et:List.take (o.length + 1) (List.map MarkV.row (o++[m]))=List.map MarkV.row (o++[m]):=List.take_of_length_le (by simp)
    exact F4 q e ea et
   ·have e:insMark l m=o:=by rw [insMark,← he]; rfl
    exact F2 q e
  ·have k1:i < l.length:=by simp only [decide_eq_true_eq] at q; omega
   have es:=insM_step (m:=m) k1
   rw [← he] at es
   cases g2:decide (l[i].Who≠m.Who) <;> cases g1:decide (l[i].Who≥m.Who) <;> cases p
   all_goals
    have g3:(l[i].Who != m.Who)=decide (l[i].Who≠m.Who):=by simp only [bne,ne_eq]; by_cases h:l[i].Who=m.Who <;> simp [h]
    simp only [insM,g1,g2,Bool.not_true,Bool.not_false,Bool.and_true,Bool.and_false,Bool.or_true,Bool.or_false,Bool.true_or,Bool.false_or,Bool.true_and,Bool.false_and,if_true,if_false,Bool.false_eq_true] at es
    have ea:=app1M o m
    have eb:=app1M o l[i]
    have ec:=app1M (o++[m]) l[i]
    have et:List.take (o.length + 1) (List.map MarkV.row (o++[m]))=List.map MarkV.row (o++[m]):=List.take_of_length_le (by simp)
    try simp -implicitDefEqProofs (maxSteps:=1000000) only [go_sem,q,g1,g3,g2,List.getElem?_eq_getElem k1,take_marks,ea,eb,ec,et]
    repeat refine ⟨sc,?_⟩
   all_goals
    refine ⟨(i + 1,(l.take (i + 1)).foldl (insM m) ([],false)),?_,⟨k1,rfl⟩,by simp only; omega⟩
    rw [← es,IntWalk.i64_in _ (by omega)]
    try simp only [List.length_append]
    rfl
def x_s_l12Put:FnX:=⟨53,[.tmp 4],
  .q [.v 3 1,.op 4 (.mv (.k (.one (.nils 3))))]
 (.q [.op 8 (.bslice 3 []),.m 5 8]
 (.q [.F 6]
 (.seq (.q [.i 7 0]
 (.block 0 (.loop [0,3,5,6,7] (.seq (.q [.m 9 7,.m 10 0,.n 11 10,.b 12 .lss 9 11]
 (.cond 12 .skip (.exit 0)))
 (.seq (.block 1 (.seq (.seq (.draw [.m 15 6,.N 16 15,.m 17 16,.y 17 (.m 18 0),.y 17 (.m 19 7),.y 17 (.x 20 3 18 19),.y 17 (.f 21 20 0),.y 17 (.l 22 21),.y 17 (.f 23 3 0),.y 17 (.l 24 23),.y 17 (.b 25 .geq 22 24),.a 26 17 25] [[],[0],[1],[2],[2],[3,4,2],[5,2],[6,2],[2],[8,2],[7,9,2],[2,10]])
 (.c 26 (.q [.m 27 5,.L 28 3 3,.op 29 (.bslice 3 [(.t 28)]),.op 30 (.app 3 24 (.t 27) (.t 29)),.m 5 30]
 (.reg [.T 6]))))
 (.seq (.draw [.m 31 0,.m 32 7,.x 33 3 31 32,.f 34 33 0,.l 35 34,.f 36 3 0,.l 37 36,.b 38 .neq 35 37] [[],[],[0,1],[2],[3],[],[5],[4,6]])
 (.c 38 (.reg [.m 39 5,.m 40 0,.m 41 7,.x 42 3 40 41,.L 43 3 42,.op 44 (.bslice 3 [(.t 43)]),.op 45 (.app 3 24 (.t 39) (.t 44)),.m 5 45])))))
 (.reg [.m 13 7,.B 14 .add 13 1,.m 7 14]))))))
 (.norm [3,5,6] (.seq (.q [.m 46 6,.N 47 46]
 (.c 47 (.reg [.m 48 5,.L 49 3 3,.op 50 (.bslice 3 [(.t 49)]),.op 51 (.app 3 24 (.t 48) (.t 50)),.m 5 51])))
 (.q [.m 52 5,.m 4 52]
 .ret))))))⟩
theorem r_s_l12Put {Te:TE}:C_s_l12Put (RF Te x_s_l12Put):=by
 intro l m h
 refine X0 x_s_l12Put.eq_1 ?_
 refine loop_of (σ:=Nat×List MarkV×Bool) (fun x=>⟨[(0,.one (.ro 3 (l.map MarkV.row))),(3,.bp 3 0),(5,.one (.rf 55 0 [] 3 0 x.2.1.length)),(6,.one (.pv (.bool x.2.2))),(7,.one (.pv (.int .i64 x.1)))],[(3,[.pv (.int .i64 m.Who),.pv (.int .i64 m.Seq),.pv (.int .i64 m.Code)])],[(0,[slT false 3 MarkV.row l]),(1,m.row),(55,[slT true 3 MarkV.row x.2.1])]⟩) (fun x=>x.1≤l.length∧x.2=(l.take x.1).foldl (insM m) ([],false)) (fun x=>l.length - x.1) (0,[],false) ?_ ⟨Nat.zero_le _,rfl⟩ ?_
 ·simp -implicitDefEqProofs (maxSteps:=1000000) only [go_sem]
  try rfl
 ·rintro ⟨i,o,p⟩ ⟨hi,he⟩
  simp only at hi he
  have hol:o.length≤2 * l.length:=by
   have:=insM_le m (l.take i) ([],false)
   rw [← he] at this
   simp only [List.length_nil,List.length_take] at this
   omega
  cases q:decide ((i:Int) < (l.length:Int))
  ·have k0:i=l.length:=by simp only [decide_eq_false_iff_not] at q; omega
   rw [k0,List.take_length] at he
   cases p
   ·have e:insMark l m=o++[m]:=by rw [insMark,← he]; rfl
    have ea:=app1M o m
    have et:List.take (o.length + 1) (List.map MarkV.row (o++[m]))=List.map MarkV.row (o++[m]):=List.take_of_length_le (by simp)
    exact F4 q e ea et
   ·have e:insMark l m=o:=by rw [insMark,← he]; rfl
    exact F2 q e
  ·have k1:i < l.length:=by simp only [decide_eq_true_eq] at q; omega
   have es:=insM_step (m:=m) k1
   rw [← he] at es
   cases g2:decide (l[i].Who≠m.Who) <;> cases g1:decide (l[i].Who≥m.Who) <;> cases p
   all_goals
    have g3:(l[i].Who != m.Who)=decide (l[i].Who≠m.Who):=by simp only [bne,ne_eq]; by_cases h:l[i].Who=m.Who <;> simp [h]
    simp only [insM,g1,g2,Bool.not_true,Bool.not_false,Bool.and_true,Bool.and_false,Bool.or_true,Bool.or_false,Bool.true_or,Bool.false_or,Bool.true_and,Bool.false_and,if_true,if_false,Bool.false_eq_true] at es
    have ea:=app1M o m
    have eb:=app1M o l[i]
    have ec:=app1M (o++[m]) l[i]
    have et:List.take (o.length + 1) (List.map MarkV.row (o++[m]))=List.map MarkV.row (o++[m]):=List.take_of_length_le (by simp)
    try simp -implicitDefEqProofs (maxSteps:=1000000) only [go_sem,q,g1,g3,g2,List.getElem?_eq_getElem k1,take_marks,ea,eb,ec,et]
    repeat refine ⟨sc,?_⟩
   all_goals
    refine ⟨(i + 1,(l.take (i + 1)).foldl (insM m) ([],false)),?_,⟨k1,rfl⟩,by simp only; omega⟩
    rw [← es,IntWalk.i64_in _ (by omega)]
    try simp only [List.length_append]
    rfl
def x_s_l13Any:FnX:=⟨46,[.cell 4 (some 9)],
  .q [.op 4 (.alloc [.nils 1,.nils 2,.i 0,.F,.nils 7,.i 0,.nils 3,.i 0,.i 0])]
 (.q [.m 6 0,.m 7 1,.op 8 (.call 262 [5,0] [(.t 6),(.t 7)]),.op 5 (.alloc [.nils 1,.nils 2,.i 0,.F,.nils 7,.i 0,.nils 3,.i 0,.i 0]),.s 100001 9 5 8]
 (.seq (.q [.m 9 0,.op 10 (.call 96 [5,0] [(.t 9),(.i 14)])]
 (.block 0 (.q [.B 12 .eql 10 0,.m 11 12]
 (.cond 11 (.reg [.m 13 0,.op 14 (.call 263 [5] [(.t 13)]),.f 15 5 0,.s 100002 4 15 14]) (.q [.B 17 .eql 10 1,.m 16 17]
 (.cond 16 (.reg [.m 18 0,.op 19 (.call 264 [5,0] [(.t 18),(.i 4)]),.f 20 5 4,.s 100003 3 20 19]) (.q [.B 22 .eql 10 2,.m 21 22]
 (.cond 21 (.reg [.m 23 0,.op 24 (.bslice 1 [(.i 0),(.i 59999),(.i 60000),(.i 60001),(.i (-1))]),.op 25 (.call 70 [5,1] [(.t 23),(.t 24)]),.f 26 5 7,.s 100004 1 26 25]) (.q [.B 28 .eql 10 3,.m 27 28]
 (.cond 27 (.reg [.m 29 0,.op 30 (.bslice 1 [(.i (-1)),(.i 30),(.i 31)]),.op 31 (.call 70 [5,1] [(.t 29),(.t 30)]),.f 32 5 8,.s 100005 1 32 31]) (.seq (.q [.B 34 .eql 10 4,.m 33 34]
 (.cond 33 .skip (.reg [.B 35 .eql 10 5,.m 33 35])))
 (.cond 33 (.reg [.m 36 0,.op 37 (.bslice 1 [(.i 0),(.i 1),(.i 2),(.i 5)]),.op 38 (.call 70 [5,1] [(.t 36),(.t 37)]),.f 39 5 0,.f 40 39 2,.s 100006 1 40 38]) (.q [.B 42 .eql 10 6,.m 41 42]
 (.c 41 (.reg [.f 43 5 0,.f 44 43 3,⟨none,none,100007,.store 1 (.t 44) .T⟩])))))))))))))))
 (.q [.L 45 9 5,.s 100008 9 4 45]
 .ret)))⟩
theorem r_s_l13Any {Te:TE} (c_s_l13Draw:C_s_l13Draw Te) (c_s_l1Below:C_s_l1Below Te) (c_s_l10Any:C_s_l10Any Te) (c_s_l12Any:C_s_l12Any Te) (c_s_l1Int:C_s_l1Int Te):∀ (c:CurV) (hc:c.ok),∃ r0,(∃ (s:StoreV) (d:CurV),((s.In (2 ^ 20)∧s.far30)∧d.ok)∧r0=(⟨[.agg (s.enc true)],[d.enc,[iT 4]]⟩:Res))∧RunFn Te x_s_l13Any [.ptr c.enc,.one (iT 4)] r0:=by
 intro c hc
 refine some_of (Nat.le_of_ble_eq_true rfl) (by rfl) ?_
 have e:∀ j k:Int,k≠j→(k==j)=false:=fun j k h=>by simpa using h
 simp -implicitDefEqProofs (maxSteps:=1000000) only [x_s_l13Any,go_sem]
 repeat refine ⟨sc,?_⟩
 try exact sf
 obtain ⟨s,d,⟨hs,hd⟩,ht⟩:=c_s_l13Draw c hc
 obtain ⟨h1,_,_,h4,h5⟩:=hs
 obtain ⟨hD,hT⟩:=StoreV.ok_in h1
 have hf:s.far30:=fun e=>by omega
 refine C0 (ht) ?_
 obtain ⟨k,d,⟨_,hd⟩,ht⟩:=c_s_l1Below d 14 hd
 by_cases q0:k=0
 ·subst q0
  obtain ⟨x,d,⟨hx,hd⟩,ht1⟩:=c_s_l10Any d hd
  refine C0 (ht) ?_
  refine C0 (ht1) ?_
  exact ⟨⟨x,s.T,s.Gen,s.Place⟩,d,⟨⟨⟨hx,hT⟩,hf⟩,hd⟩,rfl⟩
 by_cases q1:k=1
 ·subst q1
  obtain ⟨x,d,⟨hx,hd⟩,ht1⟩:=c_s_l12Any d hd
  refine C0 (ht) ?_
  refine C0 (ht1) ?_
  exact ⟨⟨s.D,x,s.Gen,s.Place⟩,d,⟨⟨⟨hD,hx⟩,hf⟩,hd⟩,rfl⟩
 by_cases q2:k=2
 ·subst q2
  obtain ⟨r,d,⟨_,hd⟩,ht1⟩:=c_s_l1Int d [0,59999,60000,60001,-1] hd (by decide)
  refine C0 (ht) ?_
  refine C0 (ht1) ?_
  exact ⟨⟨s.D,s.T,r,s.Place⟩,d,⟨⟨⟨hD,hT⟩,fun (e:s.Place=30)=>by omega⟩,hd⟩,rfl⟩
 by_cases q3:k=3
 ·subst q3
  obtain ⟨r,d,⟨_,hd⟩,ht1⟩:=c_s_l1Int d [-1,30,31] hd (by decide)
  refine C0 (ht) ?_
  refine C0 (ht1) ?_
  exact ⟨⟨s.D,s.T,s.Gen,r⟩,d,⟨⟨⟨hD,hT⟩,fun _=>by show s.Gen < 60000; omega⟩,hd⟩,rfl⟩
 by_cases q4:k=4
 ·subst q4
  obtain ⟨r,d,⟨_,hd⟩,ht1⟩:=c_s_l1Int d [0,1,2,5] hd (by decide)
  refine C0 (ht) ?_
  refine C0 (ht1) ?_
  exact ⟨⟨⟨s.D.Secs,s.D.Cache,r,s.D.Down⟩,s.T,s.Gen,s.Place⟩,d,⟨⟨⟨hD,hT⟩,hf⟩,hd⟩,rfl⟩
 by_cases q5:k=5
 ·subst q5
  obtain ⟨r,d,⟨_,hd⟩,ht1⟩:=c_s_l1Int d [0,1,2,5] hd (by decide)
  refine C0 (ht) ?_
  refine C0 (ht1) ?_
  exact ⟨⟨⟨s.D.Secs,s.D.Cache,r,s.D.Down⟩,s.T,s.Gen,s.Place⟩,d,⟨⟨⟨hD,hT⟩,hf⟩,hd⟩,rfl⟩
 by_cases q6:k=6
 ·subst q6
  refine C0 (ht) ?_
  exact ⟨⟨⟨s.D.Secs,s.D.Cache,s.D.Fuse,true⟩,s.T,s.Gen,s.Place⟩,d,⟨⟨⟨hD,hT⟩,hf⟩,hd⟩,rfl⟩
 refine .of (ht) ?_
 try simp -implicitDefEqProofs (maxSteps:=1000000) only [go_sem,e 0 k q0,e 1 k q1,e 2 k q2,e 3 k q3,e 4 k q4,e 5 k q5,e 6 k q6]
 repeat refine ⟨sc,?_⟩
 try exact sf
 exact ⟨s,d,⟨⟨⟨hD,hT⟩,hf⟩,hd⟩,rfl⟩
def x_s_l15Any:FnX:=⟨35,[.cell 4 (some 10)],
  .q [.op 4 (.alloc [.nils 1,.nils 2,.i 0,.F,.nils 7,.i 0,.nils 3,.i 0,.i 0,.i 0])]
 (.q [.m 6 0,.m 7 1,.op 8 (.call 81 [5,0] [(.t 6),(.t 7)]),.op 5 (.alloc [.nils 1,.nils 2,.i 0,.F,.nils 7,.i 0,.nils 3,.i 0,.i 0,.i 0]),.s 100001 10 5 8]
 (.seq (.q [.m 9 0,.op 10 (.call 96 [5,0] [(.t 9),(.i 12)])]
 (.block 0 (.q [.B 12 .eql 10 0,.m 11 12]
 (.cond 11 (.reg [.m 13 0,.op 14 (.call 118 [5] [(.t 13)]),.f 15 5 9,.s 100002 1 15 14]) (.q [.B 17 .eql 10 1,.m 16 17]
 (.cond 16 (.reg [.m 18 0,.op 19 (.call 180 [5,0] [(.t 18),(.i 4)]),.f 20 5 0,.s 100003 9 20 19]) (.q [.B 22 .eql 10 2,.m 21 22]
 (.cond 21 (.reg [.m 23 0,.op 24 (.bslice 1 [(.i 0),(.i 1),(.i 2)]),.op 25 (.call 70 [5,1] [(.t 23),(.t 24)]),.f 26 5 0,.f 27 26 0,.f 28 27 2,.s 100004 1 28 25]) (.q [.B 30 .eql 10 3,.m 29 30]
 (.c 29 (.reg [.f 31 5 0,.f 32 31 0,.f 33 32 3,⟨none,none,100005,.store 1 (.t 33) .T⟩])))))))))))
 (.q [.L 34 10 5,.s 100006 10 4 34]
 .ret)))⟩
theorem r_s_l15Any {Te:TE} (c_s_l15Draw:C_s_l15Draw Te) (c_s_l1Below:C_s_l1Below Te) (c_s_l3Any:C_s_l3Any Te) (c_s_l13Any:C_s_l13Any Te) (c_s_l1Int:C_s_l1Int Te):∀ (c:CurV) (most:Int) (hc:c.ok) (hm:0≤most∧most≤16),∃ r0,(∃ (n:NodeV) (d:CurV),((n.In (2 ^ 20)∧n.S.far30)∧d.ok)∧r0=(⟨[.agg (n.enc true)],[d.enc,[iT most]]⟩:Res))∧RunFn Te x_s_l15Any [.ptr c.enc,.one (iT most)] r0:=by
 intro c most hc hm
 refine some_of (Nat.le_of_ble_eq_true rfl) (by rfl) ?_
 have e:∀ j k:Int,k≠j→(k==j)=false:=fun j k h=>by simpa using h
 simp -implicitDefEqProofs (maxSteps:=1000000) only [x_s_l15Any,go_sem]
 repeat refine ⟨sc,?_⟩
 try exact sf
 obtain ⟨n,d,⟨hn,hd⟩,ht⟩:=c_s_l15Draw c most hc hm
 obtain ⟨hu,_,hg,_⟩:=hn
 have hI:=up_in hu
 have hf:n.S.far30:=fun _=>by omega
 refine C0 (ht) ?_
 obtain ⟨k,d,⟨_,hd⟩,ht⟩:=c_s_l1Below d 12 hd
 by_cases q0:k=0
 ·subst q0
  obtain ⟨r,d,hd,ht1⟩:=c_s_l3Any d hd
  refine C0 (ht) ?_
  refine C0 (ht1) ?_
  exact ⟨⟨n.S,r⟩,d,⟨⟨hI,hf⟩,hd⟩,rfl⟩
 by_cases q1:k=1
 ·subst q1
  obtain ⟨s,d,⟨⟨hs,hsf⟩,hd⟩,ht1⟩:=c_s_l13Any d hd
  refine C0 (ht) ?_
  refine C0 (ht1) ?_
  exact ⟨⟨s,n.Cs⟩,d,⟨⟨hs,hsf⟩,hd⟩,rfl⟩
 by_cases q2:k=2
 ·subst q2
  obtain ⟨r,d,⟨_,hd⟩,ht1⟩:=c_s_l1Int d [0,1,2] hd (by decide)
  refine C0 (ht) ?_
  refine C0 (ht1) ?_
  exact ⟨⟨⟨⟨n.S.D.Secs,n.S.D.Cache,r,n.S.D.Down⟩,n.S.T,n.S.Gen,n.S.Place⟩,n.Cs⟩,d,⟨⟨hI,hf⟩,hd⟩,rfl⟩
 by_cases q3:k=3
 ·subst q3
  refine C0 (ht) ?_
  exact ⟨⟨⟨⟨n.S.D.Secs,n.S.D.Cache,n.S.D.Fuse,true⟩,n.S.T,n.S.Gen,n.S.Place⟩,n.Cs⟩,d,⟨⟨hI,hf⟩,hd⟩,rfl⟩
 refine .of (ht) ?_
 try simp -implicitDefEqProofs (maxSteps:=1000000) only [go_sem,e 0 k q0,e 1 k q1,e 2 k q2,e 3 k q3]
 repeat refine ⟨sc,?_⟩
 try exact sf
 exact ⟨n,d,⟨⟨hI,hf⟩,hd⟩,rfl⟩
def x_s_DrawNodeNew:FnX:=⟨8,[.tmp 2],
  .q [.i 2 0]
 (.q [.m 4 0,.c 5 58 [4],.m 3 5]
 (.q [.m 6 3,.op 7 (.call 118 [5] [(.t 6)]),.m 2 7]
 .ret))⟩
theorem r_s_DrawNodeNew {Te:TE} (c_s_l1New:C_s_l1New Te) (c_s_l3Any:C_s_l3Any Te):∀ (l:List UInt8) (hl:l.length≤2 ^ 31),∃ r0,(∃ (r:Int),(True)∧r0=(⟨[.one (iT r)],[[slT false 1 uR l]]⟩:Res))∧RunFn Te x_s_DrawNodeNew [.one (slT false 1 uR l)] r0:=by
 intro l hl
 refine some_of (Nat.le_of_ble_eq_true rfl) (by rfl) ?_
 simp -implicitDefEqProofs (maxSteps:=1000000) only [x_s_DrawNodeNew,go_sem]
 repeat refine ⟨sc,?_⟩
 try exact sf
 obtain ⟨c,hc,ht⟩:=c_s_l1New l hl
 refine C0 (ht) ?_
 obtain ⟨r,d,hd,ht⟩:=c_s_l3Any c hc
 refine C0 (ht) ?_
 exact ⟨r,rfl⟩
def x_s_DrawNodeOk:FnX:=⟨8,[.cell 2 (some 10)],
  .q [.op 2 (.alloc [.nils 1,.nils 2,.i 0,.F,.nils 7,.i 0,.nils 3,.i 0,.i 0,.i 0])]
 (.q [.m 4 0,.c 5 58 [4],.m 3 5]
 (.q [.m 6 3,.op 7 (.call 92 [5,0] [(.t 6),(.i 6)]),.s 100001 10 2 7]
 .ret))⟩
theorem r_s_DrawNodeOk {Te:TE} (c_s_l1New:C_s_l1New Te) (c_s_l15Any:C_s_l15Any Te):∀ (l:List UInt8) (hl:l.length≤2 ^ 31),∃ r0,(∃ (n:NodeV),(n.In (2 ^ 20))∧r0=(⟨[.agg (n.enc true)],[[slT false 1 uR l]]⟩:Res))∧RunFn Te x_s_DrawNodeOk [.one (slT false 1 uR l)] r0:=by
 intro l hl
 refine some_of (Nat.le_of_ble_eq_true rfl) (by rfl) ?_
 simp -implicitDefEqProofs (maxSteps:=1000000) only [x_s_DrawNodeOk,go_sem]
 repeat refine ⟨sc,?_⟩
 try exact sf
 obtain ⟨c,hc,ht⟩:=c_s_l1New l hl
 refine C0 (ht) ?_
 obtain ⟨n,d,⟨⟨hn,_⟩,hd⟩,ht⟩:=c_s_l15Any c 6 hc (by decide)
 refine C0 (ht) ?_
 exact ⟨n,hn,rfl⟩
def x_i_nineSign:FnX:=⟨21,[.tmp 2],
  .q [.i 2 0]
 (.seq (.q [.m 3 0]
 (.block 0 (.q [.B 5 .eql 3 164,.m 4 5]
 (.cond 4 (.q [.i 2 8364]
 .ret) (.q [.B 7 .eql 3 166,.m 6 7]
 (.cond 6 (.q [.i 2 352]
 .ret) (.q [.B 9 .eql 3 168,.m 8 9]
 (.cond 8 (.q [.i 2 353]
 .ret) (.q [.B 11 .eql 3 180,.m 10 11]
 (.cond 10 (.q [.i 2 381]
 .ret) (.q [.B 13 .eql 3 184,.m 12 13]
 (.cond 12 (.q [.i 2 382]
 .ret) (.q [.B 15 .eql 3 188,.m 14 15]
 (.cond 14 (.q [.i 2 338]
 .ret) (.q [.B 17 .eql 3 189,.m 16 17]
 (.cond 16 (.q [.i 2 339]
 .ret) (.q [.B 19 .eql 3 190,.m 18 19]
 (.c 18 (.q [.i 2 376]
 .ret)))))))))))))))))))
 (.q [.m 20 0,.m 2 20]
 .ret))⟩
theorem r_i_nineSign {Te:TE}:C_i_nineSign (RF Te x_i_nineSign):=by
 intro b
 refine run0 ?_
 cases g0:(b==164)
 rotate_left
 ·simp -implicitDefEqProofs (maxSteps:=1000000) only [x_i_nineSign,go_sem,nine,g0]
  repeat refine ⟨sc,?_⟩
  try exact sf
 cases g1:(b==166)
 rotate_left
 ·simp -implicitDefEqProofs (maxSteps:=1000000) only [x_i_nineSign,go_sem,nine,g1,g0]
  repeat refine ⟨sc,?_⟩
  try exact sf
 cases g2:(b==168)
 rotate_left
 ·simp -implicitDefEqProofs (maxSteps:=1000000) only [x_i_nineSign,go_sem,nine,g2,g0,g1]
  repeat refine ⟨sc,?_⟩
  try exact sf
 cases g3:(b==180)
 rotate_left
 ·simp -implicitDefEqProofs (maxSteps:=1000000) only [x_i_nineSign,go_sem,nine,g3,g0,g1,g2]
  repeat refine ⟨sc,?_⟩
  try exact sf
 cases g4:(b==184)
 rotate_left
 ·simp -implicitDefEqProofs (maxSteps:=1000000) only [x_i_nineSign,go_sem,nine,g4,g0,g1,g2,g3]
  repeat refine ⟨sc,?_⟩
  try exact sf
 cases g5:(b==188)
 rotate_left
 ·simp -implicitDefEqProofs (maxSteps:=1000000) only [x_i_nineSign,go_sem,nine,g5,g0,g1,g2,g3,g4]
  repeat refine ⟨sc,?_⟩
  try exact sf
 cases g6:(b==189)
 rotate_left
 ·simp -implicitDefEqProofs (maxSteps:=1000000) only [x_i_nineSign,go_sem,nine,g6,g0,g1,g2,g3,g4,g5]
  repeat refine ⟨sc,?_⟩
  try exact sf
 cases g7:(b==190)
 rotate_left
 ·simp -implicitDefEqProofs (maxSteps:=1000000) only [x_i_nineSign,go_sem,nine,g7,g0,g1,g2,g3,g4,g5,g6]
  repeat refine ⟨sc,?_⟩
  try exact sf
 simp -implicitDefEqProofs (maxSteps:=1000000) only [x_i_nineSign,go_sem,nine,g0,g1,g2,g3,g4,g5,g6,g7]
 repeat refine ⟨sc,?_⟩
 try exact sf
def x_s_l3Nine:FnX:=⟨21,[.tmp 2],
  .q [.i 2 0]
 (.seq (.q [.m 3 0]
 (.block 0 (.q [.B 5 .eql 3 164,.m 4 5]
 (.cond 4 (.q [.i 2 8364]
 .ret) (.q [.B 7 .eql 3 166,.m 6 7]
 (.cond 6 (.q [.i 2 352]
 .ret) (.q [.B 9 .eql 3 168,.m 8 9]
 (.cond 8 (.q [.i 2 353]
 .ret) (.q [.B 11 .eql 3 180,.m 10 11]
 (.cond 10 (.q [.i 2 381]
 .ret) (.q [.B 13 .eql 3 184,.m 12 13]
 (.cond 12 (.q [.i 2 382]
 .ret) (.q [.B 15 .eql 3 188,.m 14 15]
 (.cond 14 (.q [.i 2 338]
 .ret) (.q [.B 17 .eql 3 189,.m 16 17]
 (.cond 16 (.q [.i 2 339]
 .ret) (.q [.B 19 .eql 3 190,.m 18 19]
 (.c 18 (.q [.i 2 376]
 .ret)))))))))))))))))))
 (.q [.m 20 0,.m 2 20]
 .ret))⟩
theorem r_s_l3Nine {Te:TE}:C_s_l3Nine (RF Te x_s_l3Nine):=by
 intro b
 refine run0 ?_
 cases g0:(b==164)
 rotate_left
 ·simp -implicitDefEqProofs (maxSteps:=1000000) only [x_s_l3Nine,go_sem,nine,g0]
  repeat refine ⟨sc,?_⟩
  try exact sf
 cases g1:(b==166)
 rotate_left
 ·simp -implicitDefEqProofs (maxSteps:=1000000) only [x_s_l3Nine,go_sem,nine,g1,g0]
  repeat refine ⟨sc,?_⟩
  try exact sf
 cases g2:(b==168)
 rotate_left
 ·simp -implicitDefEqProofs (maxSteps:=1000000) only [x_s_l3Nine,go_sem,nine,g2,g0,g1]
  repeat refine ⟨sc,?_⟩
  try exact sf
 cases g3:(b==180)
 rotate_left
 ·simp -implicitDefEqProofs (maxSteps:=1000000) only [x_s_l3Nine,go_sem,nine,g3,g0,g1,g2]
  repeat refine ⟨sc,?_⟩
  try exact sf
 cases g4:(b==184)
 rotate_left
 ·simp -implicitDefEqProofs (maxSteps:=1000000) only [x_s_l3Nine,go_sem,nine,g4,g0,g1,g2,g3]
  repeat refine ⟨sc,?_⟩
  try exact sf
 cases g5:(b==188)
 rotate_left
 ·simp -implicitDefEqProofs (maxSteps:=1000000) only [x_s_l3Nine,go_sem,nine,g5,g0,g1,g2,g3,g4]
  repeat refine ⟨sc,?_⟩
  try exact sf
 cases g6:(b==189)
 rotate_left
 ·simp -implicitDefEqProofs (maxSteps:=1000000) only [x_s_l3Nine,go_sem,nine,g6,g0,g1,g2,g3,g4,g5]
  repeat refine ⟨sc,?_⟩
  try exact sf
 cases g7:(b==190)
 rotate_left
 ·simp -implicitDefEqProofs (maxSteps:=1000000) only [x_s_l3Nine,go_sem,nine,g7,g0,g1,g2,g3,g4,g5,g6]
  repeat refine ⟨sc,?_⟩
  try exact sf
 simp -implicitDefEqProofs (maxSteps:=1000000) only [x_s_l3Nine,go_sem,nine,g0,g1,g2,g3,g4,g5,g6,g7]
 repeat refine ⟨sc,?_⟩
 try exact sf
def x_i_koiSign:FnX:=⟨26,[.tmp 2],
  .q [.i 2 0]
 (.q [.op 4 (.build [.i 0,.i 0,.i 0,.i 0,.i 0,.i 0,.i 0,.i 0,.i 0,.i 0,.i 0,.i 0,.i 0,.i 0,.i 0,.i 0,.i 0,.i 0,.i 0,.i 0,.i 0,.i 0,.i 0,.i 0,.i 0,.i 0,.i 0,.i 0,.i 0,.i 0,.i 0,.i 0] [(0,1,(.i 1102)),(1,1,(.i 1072)),(2,1,(.i 1073)),(3,1,(.i 1094)),(4,1,(.i 1076)),(5,1,(.i 1077)),(6,1,(.i 1092)),(7,1,(.i 1075)),(8,1,(.i 1093)),(9,1,(.i 1080)),(10,1,(.i 1081)),(11,1,(.i 1082)),(12,1,(.i 1083)),(13,1,(.i 1084)),(14,1,(.i 1085)),(15,1,(.i 1086)),(16,1,(.i 1087)),(17,1,(.i 1103)),(18,1,(.i 1088)),(19,1,(.i 1089)),(20,1,(.i 1090)),(21,1,(.i 1091)),(22,1,(.i 1078)),(23,1,(.i 1074)),(24,1,(.i 1100)),(25,1,(.i 1099)),(26,1,(.i 1079)),(27,1,(.i 1096)),(28,1,(.i 1101)),(29,1,(.i 1097)),(30,1,(.i 1095)),(31,1,(.i 1098))]),.op 3 (.alloc [.i 0,.i 0,.i 0,.i 0,.i 0,.i 0,.i 0,.i 0,.i 0,.i 0,.i 0,.i 0,.i 0,.i 0,.i 0,.i 0,.i 0,.i 0,.i 0,.i 0,.i 0,.i 0,.i 0,.i 0,.i 0,.i 0,.i 0,.i 0,.i 0,.i 0,.i 0,.i 0]),.s 100001 32 3 4]
 (.seq (.block 0 (.q [.m 6 0,.B 7 .geq 6 224,.m 5 7]
 (.cond 5 (.q [.m 8 0,.B 9 .sub 8 224,.op 10 (.aaddr 32 1 (.t 3) (.t 9)),.l 11 10,.B 12 .sub 11 32,.m 2 12]
 .ret) (.q [.m 14 0,.B 15 .geq 14 192,.m 13 15]
 (.cond 13 (.q [.m 16 0,.B 17 .sub 16 192,.op 18 (.aaddr 32 1 (.t 3) (.t 17)),.l 19 18,.m 2 19]
 .ret) (.q [.m 21 0,.B 22 .eql 21 163,.m 20 22]
 (.cond 20 (.q [.i 2 1105]
 .ret) (.q [.m 24 0,.B 25 .eql 24 179,.m 23 25]
 (.c 23 (.q [.i 2 1025]
 .ret))))))))))
 (.q [.i 2 0]
 .ret)))⟩
theorem r_i_koiSign {Te:TE}:C_i_koiSign (RF Te x_i_koiSign):=by
 intro b hb
 refine run0 ?_
 cases g1:decide (b≥224)
 ·cases g2:decide (b≥192)
  ·cases g3:(b==163)
   ·cases g4:(b==179)
    ·simp -implicitDefEqProofs (maxSteps:=1000000) only [x_i_koiSign,go_sem,koi,g1,g2,g3,g4]
     repeat refine ⟨sc,?_⟩
     try exact sf
    ·simp -implicitDefEqProofs (maxSteps:=1000000) only [x_i_koiSign,go_sem,koi,g1,g2,g3,g4]
     repeat refine ⟨sc,?_⟩
     try exact sf
   ·simp -implicitDefEqProofs (maxSteps:=1000000) only [x_i_koiSign,go_sem,koi,g1,g2,g3]
    repeat refine ⟨sc,?_⟩
    try exact sf
  ·simp only [decide_eq_true_eq] at g2
   have e:IntKind.i64.wrap (b - 192)=b - 192:=IntWalk.i64_in _ (by omega)
   simp only [decide_eq_false_iff_not] at g1
   have hk:(b - 192).toNat < 32:=by omega
   have q1:=decide_eq_false g1
   have q2:=decide_eq_true g2
   simp -implicitDefEqProofs (maxSteps:=1000000) only [x_i_koiSign,go_sem,koi,q1,q2,e,Nat.mul_one]
   repeat refine ⟨sc,?_⟩
   try exact sf
   try simp -implicitDefEqProofs (maxSteps:=1000000) only [go_sem,koi_cel hk,q1,q2]
   repeat refine ⟨sc,?_⟩
   try exact sf
 ·simp only [decide_eq_true_eq] at g1
  have e:IntKind.i64.wrap (b - 224)=b - 224:=IntWalk.i64_in _ (by omega)
  have hk:(b - 224).toNat < 32:=by omega
  have q1:=decide_eq_true g1
  have hv:=koi_in ⟨(b - 224).toNat,hk⟩
  have e2:IntKind.i64.wrap (koiL.getD (b - 224).toNat 0 - 32)=koiL.getD (b - 224).toNat 0 - 32:=IntWalk.i64_in _ (by simp only at hv; omega)
  simp -implicitDefEqProofs (maxSteps:=1000000) only [x_i_koiSign,go_sem,koi,q1,e,Nat.mul_one]
  repeat refine ⟨sc,?_⟩
  try exact sf
  try simp -implicitDefEqProofs (maxSteps:=1000000) only [go_sem,koi_cel hk,q1,e2]
  repeat refine ⟨sc,?_⟩
  try exact sf
def x_s_l9Draw:FnX:=⟨68,[.cell 2 (some 7)],
  .q [.op 2 (.alloc [.e,.i 0,.nils 1,.i 0,.nils 1,.i 0,.F])]
 (.q [.m 9 0,.op 10 (.call 168 [5] [(.t 9)]),.m 3 10]
 (.q [.m 11 0,.op 12 (.call 93 [5] [(.t 11)]),.m 4 12]
 (.seq (.q [.m 13 0,.op 14 (.call 96 [5,0] [(.t 13),(.i 6)])]
 (.block 0 (.q [.B 16 .eql 14 0,.m 15 16]
 (.cond 15 (.q [.m 17 4,.op 18 (.bslice 1 [(.k (.one (.pv (.int .u8 128)))),(.k (.one (.pv (.int .u8 65))))]),.op 19 (.build [.i 0,.nils 1] [(0,1,(.i 3)),(1,1,(.t 18))]),.op 20 (.build [.e,.i 0,.nils 1,.i 0,.nils 1,.i 0,.F] [(0,1,(.t 17)),(1,2,(.t 19)),(5,1,(.i 1)),(6,1,.T)]),.s 100001 7 2 20]
 .ret) (.q [.B 22 .eql 14 1,.m 21 22]
 (.c 21 (.q [.m 24 4,.m 25 3,.m 26 0,.m 27 3,.op 28 (.call 106 [5,0,0] [(.t 26),(.t 27),(.i 5)]),.op 29 (.call 109 [0,0,0,0] [(.i 0),(.t 24),(.t 25),(.t 28)]),.m 23 29,.e 30 23 0,.e 31 23 1,.op 5 (.alloc [.e,.i 0,.nils 1,.i 0,.nils 1,.i 0,.F]),.s 100002 7 5 30,.m 6 31]
 (.q [.L 32 7 5,.s 100003 7 2 32]
 .ret))))))))
 (.q [.m 34 0,.op 35 (.call 96 [5,0] [(.t 34),(.i 8)]),.m 36 4,.m 37 3,.m 38 0,.m 39 0,.m 40 3,.m 41 3,.m 42 3,.op 43 (.bslice 1 [(.t 40),(.t 41),(.t 42),(.i 0)]),.op 44 (.call 70 [5,1] [(.t 39),(.t 43)]),.op 45 (.call 106 [5,0,0] [(.t 38),(.t 44),(.i 5)]),.c 46 109 [35,36,37,45],.m 33 46,.e 47 33 0,.e 48 33 1,.op 7 (.alloc [.e,.i 0,.nils 1,.i 0,.nils 1,.i 0,.F]),.s 100004 7 7 47,.m 8 48]
 (.seq (.q [.m 49 8,.B 50 .neq 49 0]
 (.c 50 (.reg [.m 52 4,.m 53 3,.op 54 (.call 109 [0,0,0,0] [(.i 5),(.t 52),(.t 53),(.k (.one (.pv (.string ⟨#[120]⟩))))]),.m 51 54,.e 55 51 0,.e 56 51 1,.s 100005 7 7 55])))
 (.seq (.q [.m 57 0,.op 58 (.call 96 [5,0] [(.t 57),(.i 5)])]
 (.block 1 (.q [.B 60 .eql 58 0,.m 59 60]
 (.cond 59 (.q [.L 61 7 7,.c 62 201 [61],.s 100006 7 2 62]
 .ret) (.q [.B 64 .eql 58 1,.m 63 64]
 (.c 63 (.q [.L 65 7 7,.c 66 203 [65],.s 100007 7 2 66]
 .ret)))))))
 (.q [.L 67 7 7,.s 100008 7 2 67]
 .ret)))))))⟩
theorem r_s_l9Draw {Te:TE} (c_s_l3Cs:C_s_l3Cs Te) (c_s_l1Name:C_s_l1Name Te) (c_s_l1Below:C_s_l1Below Te) (c_s_l5Text:C_s_l5Text Te) (c_s_RowOf:C_s_RowOf Te) (c_s_l1Int:C_s_l1Int Te) (c_s_FillRow:C_s_FillRow Te) (c_s_BackRow:C_s_BackRow Te):∀ (c:CurV) (hc:c.ok),∃ r0,(∃ (r:RowV) (d:CurV),(r.In (2 ^ 20)∧d.ok)∧r0=(⟨[.agg (r.enc true)],[d.enc]⟩:Res))∧RunFn Te x_s_l9Draw [.ptr c.enc] r0:=by
 intro c hc
 refine some_of (Nat.le_of_ble_eq_true rfl) (by rfl) ?_
 have e:∀ j k:Int,k≠j→(k==j)=false:=fun j k h=>by simpa using h
 simp -implicitDefEqProofs (maxSteps:=1000000) only [x_s_l9Draw,go_sem]
 repeat refine ⟨sc,?_⟩
 try exact sf
 obtain ⟨cs,d,⟨_,hd⟩,ht⟩:=c_s_l3Cs c hc
 refine C0 (ht) ?_
 obtain ⟨key,d,⟨hkey,hd⟩,ht⟩:=c_s_l1Name d hd
 have hk:key.size≤2 ^ 20:=by omega
 refine C0 (ht) ?_
 obtain ⟨k,d,⟨_,hd⟩,ht⟩:=c_s_l1Below d 6 hd
 by_cases q0:k=0
 ·subst q0
  refine C0 (ht) ?_
  exact ⟨⟨key,⟨3,[128,65]⟩,⟨0,[]⟩,1,true⟩,d,⟨⟨hk,by show 2≤2 ^ 20; decide,Nat.zero_le _⟩,hd⟩,rfl⟩
 by_cases q1:k=1
 ·subst q1
  obtain ⟨s,d,⟨hs,hd⟩,ht1⟩:=c_s_l5Text d cs 5 hd (by decide)
  replace hs:s.size≤20:=hs
  refine C0 (ht) ?_
  refine C0 (ht1) ?_
  refine C0 (c_s_RowOf 0 key cs s hk (by omega)) ?_
  exact ⟨(rowOf 0 key cs s).1,d,⟨rowOf_in hk,hd⟩,rfl⟩
 obtain ⟨p,d,⟨_,hd⟩,ht1⟩:=c_s_l1Below d 8 hd
 obtain ⟨u,d,⟨_,hd⟩,ht2⟩:=c_s_l1Int d [cs,cs,cs,0] hd (by simp)
 obtain ⟨s,d,⟨hs,hd⟩,ht3⟩:=c_s_l5Text d u 5 hd (by decide)
 replace hs:s.size≤20:=hs
 obtain ⟨v,d,⟨_,hd⟩,ht4⟩:=c_s_l1Below d 5 hd
 have h1:(rowOf p key cs s).1.In (2 ^ 20):=rowOf_in hk
 have h2:(rowOf 5 key cs ⟨#[120]⟩).1.In (2 ^ 20):=rowOf_in hk
 have hx:(⟨#[120]⟩:ByteArray).size≤2 ^ 20:=by decide
 cases g:(rowOf p key cs s).2 != 0
 ·by_cases q2:v=0
  ·subst q2
   refine .of (ht) ?_
   try simp -implicitDefEqProofs (maxSteps:=1000000) only [go_sem,e 0 k q0,e 1 k q1]
   repeat refine ⟨sc,?_⟩
   try exact sf
   refine C0 (ht1) ?_
   refine C0 (ht2) ?_
   refine C0 (ht3) ?_
   refine C1 (c_s_RowOf p key cs s hk (by omega)) g ?_
   refine C0 (ht4) ?_
   refine C0 (c_s_FillRow _ h1) ?_
   exact ⟨(rowOf p key cs s).1.fill,d,⟨fill_in2 h1,hd⟩,rfl⟩
  by_cases q3:v=1
  ·subst q3
   refine .of (ht) ?_
   try simp -implicitDefEqProofs (maxSteps:=1000000) only [go_sem,e 0 k q0,e 1 k q1]
   repeat refine ⟨sc,?_⟩
   try exact sf
   refine C0 (ht1) ?_
   refine C0 (ht2) ?_
   refine C0 (ht3) ?_
   refine C1 (c_s_RowOf p key cs s hk (by omega)) g ?_
   refine C0 (ht4) ?_
   refine C0 (c_s_BackRow _ h1) ?_
   exact ⟨(rowOf p key cs s).1.back,d,⟨back_in2 h1,hd⟩,rfl⟩
  refine .of (ht) ?_
  try simp -implicitDefEqProofs (maxSteps:=1000000) only [go_sem,e 0 k q0,e 1 k q1]
  repeat refine ⟨sc,?_⟩
  try exact sf
  refine C0 (ht1) ?_
  refine C0 (ht2) ?_
  refine C0 (ht3) ?_
  refine C1 (c_s_RowOf p key cs s hk (by omega)) g ?_
  refine .of (ht4) ?_
  try simp -implicitDefEqProofs (maxSteps:=1000000) only [go_sem,e 0 v q2,e 1 v q3]
  repeat refine ⟨sc,?_⟩
  try exact sf
  exact ⟨(rowOf p key cs s).1,d,⟨h1,hd⟩,rfl⟩
 ·by_cases q2:v=0
  ·subst q2
   refine .of (ht) ?_
   try simp -implicitDefEqProofs (maxSteps:=1000000) only [go_sem,e 0 k q0,e 1 k q1]
   repeat refine ⟨sc,?_⟩
   try exact sf
   refine C0 (ht1) ?_
   refine C0 (ht2) ?_
   refine C0 (ht3) ?_
   refine C1 (c_s_RowOf p key cs s hk (by omega)) g ?_
   refine C0 (c_s_RowOf 5 key cs ⟨#[120]⟩ hk hx) ?_
   refine C0 (ht4) ?_
   refine C0 (c_s_FillRow _ h2) ?_
   exact ⟨(rowOf 5 key cs ⟨#[120]⟩).1.fill,d,⟨fill_in2 h2,hd⟩,rfl⟩
  by_cases q3:v=1
  ·subst q3
   refine .of (ht) ?_
   try simp -implicitDefEqProofs (maxSteps:=1000000) only [go_sem,e 0 k q0,e 1 k q1]
   repeat refine ⟨sc,?_⟩
   try exact sf
   refine C0 (ht1) ?_
   refine C0 (ht2) ?_
   refine C0 (ht3) ?_
   refine C1 (c_s_RowOf p key cs s hk (by omega)) g ?_
   refine C0 (c_s_RowOf 5 key cs ⟨#[120]⟩ hk hx) ?_
   refine C0 (ht4) ?_
   refine C0 (c_s_BackRow _ h2) ?_
   exact ⟨(rowOf 5 key cs ⟨#[120]⟩).1.back,d,⟨back_in2 h2,hd⟩,rfl⟩
  refine .of (ht) ?_
  try simp -implicitDefEqProofs (maxSteps:=1000000) only [go_sem,e 0 k q0,e 1 k q1]
  repeat refine ⟨sc,?_⟩
  try exact sf
  refine C0 (ht1) ?_
  refine C0 (ht2) ?_
  refine C0 (ht3) ?_
  refine C1 (c_s_RowOf p key cs s hk (by omega)) g ?_
  refine C0 (c_s_RowOf 5 key cs ⟨#[120]⟩ hk hx) ?_
  refine .of (ht4) ?_
  try simp -implicitDefEqProofs (maxSteps:=1000000) only [go_sem,e 0 v q2,e 1 v q3]
  repeat refine ⟨sc,?_⟩
  try exact sf
  exact ⟨(rowOf 5 key cs ⟨#[120]⟩).1,d,⟨h2,hd⟩,rfl⟩
def x_s_GetSign_1:XCode:=.seq (.q [.i 9 1]
 (.block 0 (.loop [0,1,7,8,9] (.seq (.q [.m 43 9,.m 44 7,.b 45 .lss 43 44]
 (.cond 45 .skip (.exit 0)))
 (.seq (.block 1 (.seq (.q [.m 48 0,.m 49 1,.m 50 9,.b 51 .add 49 50,.x 52 1 48 51,.l 53 52,.op 54 (.bin .and (.t 53) (.k (.one (.pv (.int .u8 192))))),.op 55 (.bin .neq (.t 54) (.k (.one (.pv (.int .u8 128)))))]
 (.c 55 (.q [.i 4 0,.i 5 0,.F 6]
 .ret)))
 (.reg [.m 56 8,.op 57 (.bin .shl (.t 56) (.k (.one (.pv (.int .u64 6))))),.m 58 0,.m 59 1,.m 60 9,.b 61 .add 59 60,.x 62 1 58 61,.l 63 62,.op 64 (.bin .and (.t 63) (.k (.one (.pv (.int .u8 63))))),.op 65 (.conv (.int .i64) (.t 64)),.b 66 .or 57 65,.m 8 66])))
 (.reg [.m 46 9,.B 47 .add 46 1,.m 9 47]))))))
 (.norm [0,1,7,8] (.seq (.seq (.draw [.m 67 8,.c 68 275 [67],.N 69 68,.m 70 69,.z 70 (.op 71 (.bslice 1 [])),.z 70 (.m 72 8),.z 70 (.c 73 189 [71,72]),.z 70 (.op 74 (.conv .b2s (.t 73))),.z 70 (.m 75 0),.z 70 (.m 76 1),.z 70 (.m 77 1),.z 70 (.m 78 7),.z 70 (.b 79 .add 77 78),.z 70 (.op 80 (.slice 1 (.t 75) (some (.t 76)) (some (.t 79)))),.z 70 (.op 81 (.conv .b2s (.t 80))),.z 70 (.b 82 .neq 74 81),.r 83 70 82] [[],[0],[1],[2,1],[3],[3],[4,5,3,3],[6,3],[3],[3],[3],[3],[10,11,3],[8,9,12,3],[13,3],[7,14,3],[3,15]])
 (.c 83 (.q [.i 4 0,.i 5 0,.F 6]
 .ret)))
 (.q [.m 84 8,.m 85 1,.m 86 7,.b 87 .add 85 86,.m 4 84,.m 5 87,.T 6]
 .ret)))
def x_s_GetSign:FnX:=⟨88,[.tmp 4,.tmp 5,.tmp 6],
  .q [.i 4 0,.i 5 0,.F 6]
 (.seq (.q [.m 10 1,.m 11 0,.n 12 11,.B 13 .sub 12 1,.op 14 (.call 120 [0,0,0] [(.t 10),(.i 0),(.t 13)]),.N 15 14]
 (.c 15 (.q [.i 4 0,.i 5 0,.F 6]
 .ret)))
 (.q [.m 16 0,.m 17 1,.x 18 1 16 17,.l 19 18,.c 20 329 [19],.m 7 20]
 (.seq (.q [.m 21 7,.B 22 .eql 21 0,.m 23 22,.z 23 (.m 24 7),.z 23 (.m 25 0),.z 23 (.n 26 25),.z 23 (.m 27 1),.z 23 (.b 28 .sub 26 27),.z 23 (.b 29 .gtr 24 28),.r 30 23 29]
 (.c 30 (.q [.i 4 0,.i 5 0,.F 6]
 .ret)))
 (.q [.m 31 0,.m 32 1,.x 33 1 31 32,.l 34 33,.op 35 (.conv (.int .i64) (.t 34)),.m 8 35]
 (.seq (.q [.m 36 7,.B 37 .gtr 36 1]
 (.c 37 (.reg [.m 38 8,.m 39 7,.op 40 (.conv (.int .u64) (.t 39)),.op 41 (.bin .shr (.i 127) (.t 40)),.b 42 .and 38 41,.m 8 42])))
 (.norm [0,1,7,8] (x_s_GetSign_1)))))))⟩
theorem s_GetSign_tail {Te:Nat→List AV→Res→Prop} (c_S:C_s_SignOk Te) (c_P:C_s_PutSign Te) (b:List UInt8) (k K m:Nat) (hb:b.length≤2 ^ 30) (hK:1≤K∧K≤4∧k + K≤b.length) (hm:m < 256) :
  runC Te 2 90 x_s_GetSign_1 ⟨[(0,.one (.ro 1 (b.map uR))),(1,.one (.pv (.int .i64 (k:Int)))),(7,.one (.pv (.int .i64 (K:Int)))),(8,.one (.pv (.int .i64 (m:Int))))],[],[(0,[slT false 1 uR b]),(1,[iT k])]⟩
   (EndFn Te [.one (slT false 1 uR b),.one (iT k)] [.tmp 4,.tmp 5,.tmp 6] ⟨[.one (iT (signTail (b.drop k) k K m).1),.one (iT (signTail (b.drop k) k K m).2.1),.one (bT (signTail (b.drop k) k K m).2.2)],[[slT false 1 uR b],[iT k]]⟩):=by
 simp -implicitDefEqProofs (maxSteps:=1000000) only [x_s_GetSign_1,go_sem]
 refine loop_of (σ:=Nat) (fun j=>⟨[(0,.one (.ro 1 (b.map uR))),(1,.one (.pv (.int .i64 (k:Int)))),(7,.one (.pv (.int .i64 (K:Int)))),(8,.one (.pv (.int .i64 ((accN (b.drop k) m j:Nat):Int)))),(9,.one (.pv (.int .i64 ((j + 1:Nat):Int))))],[],[(0,[slT false 1 uR b]),(1,[iT k])]⟩) (fun j=>j + 1≤K∧contB (b.drop k) j=true) (fun j=>K - j) 0 ?_ ⟨hK.1,rfl⟩ ?_
 ·simp -implicitDefEqProofs (maxSteps:=1000000) only [go_sem]; rfl
 ·rintro j ⟨hj,hc⟩
  have hacc:=accN_small (b.drop k) hm (show j≤3 by omega)
  cases q:decide (((j + 1:Nat):Int) < (K:Int))
  ·have hjK:j=K - 1:=by simp only [decide_eq_false_iff_not] at q; omega
   subst hjK
   refine G1 q ?_
   refine C0 (c_S _) ?_
   cases h1:signOk ((accN (b.drop k) m (K - 1):Nat):Int)
   ·have e:=tail_no (l:=b.drop k) (i:=k) (K:=K) (m:=m) (by rw [h1,Bool.and_false,Bool.false_and])
    exact F1 e
   ·have e1:IntKind.i64.wrap ((k:Int) + (K:Int))=((k + K:Nat):Int):=by rw [IntWalk.i64_in _ (by omega)]; rfl
    have e2:k≤k + K:=Nat.le_add_right _ _
    have e3:List.take (k + K - k) (List.drop k (b.map uR))=((b.drop k).take K).map uR:=by rw [← List.map_drop,← List.map_take,Nat.add_sub_cancel_left]
    have e4:decide (k + K≤b.length)=true:=decide_eq_true hK.2.2
    refine G0 ?_
    refine .of (c_P [] _ (by decide)) ?_
    try simp -implicitDefEqProofs (maxSteps:=1000000) only [go_sem,e1,e3,take_map,bytesOf_uR,areBytes_uR,wholeLL_map]
    repeat refine ⟨sc,?_⟩
    try exact sf
    have ep:putSign [] ((accN (b.drop k) m (K - 1):Nat):Int)=enc8 (accN (b.drop k) m (K - 1)):=by simp only [putSign,h1,if_true,Int.toNat_natCast,List.nil_append]
    have ed:decide ((⟨(enc8 (accN (b.drop k) m (K - 1))).toArray⟩:ByteArray)=⟨((b.drop k).take K).toArray⟩)=decide (enc8 (accN (b.drop k) m (K - 1))=(b.drop k).take K):=by
     congr 1
     simp
    cases h2:decide (enc8 (accN (b.drop k) m (K - 1))=(b.drop k).take K)
    ·have e:=tail_no (l:=b.drop k) (i:=k) (K:=K) (m:=m) (by rw [h2,Bool.and_false])
     exact F4 ep ed h2 e
    ·have e:signTail (b.drop k) k K m=(((accN (b.drop k) m (K - 1):Nat):Int),(k:Int) + (K:Nat),true):=if_pos (by rw [hc,h1,h2]; rfl)
     exact F4 ep ed h2 e
  ·have hjK:j + 1 < K:=by simp only [decide_eq_true_eq] at q; omega
   have hidx:k + (j + 1) < b.length:=by omega
   have e1:IntKind.i64.wrap ((k:Int) + ((j + 1:Nat):Int))=((k + (j + 1):Nat):Int):=by rw [IntWalk.i64_in _ (by omega)]; rfl
   have eb:b[k + (j + 1)].toNat=byteN (b.drop k) (j + 1):=by
    simp only [byteN,List.getD_eq_getElem?_getD,List.getElem?_drop]
    rw [List.getElem?_eq_getElem hidx]
    rfl
   have hlt:=byteN_lt (b.drop k) (j + 1)
   have e2:=and192 (byteN (b.drop k) (j + 1)) hlt
   try simp -implicitDefEqProofs (maxSteps:=1000000) only [go_sem,q,e1,List.getElem?_eq_getElem hidx,eb,e2]
   repeat refine ⟨sc,?_⟩
   try exact sf
   cases h3:(byteN (b.drop k) (j + 1) / 64==2)
   ·have hno:contB (b.drop k) (K - 1)=false:=contB_down _ (show j + 1≤K - 1 by omega) (by simp only [contB,h3,Bool.and_false])
    have e:=tail_no (l:=b.drop k) (i:=k) (K:=K) (m:=m) (by rw [hno,Bool.false_and,Bool.false_and])
    exact F1 e
   ·have e4:IntKind.i64.wrap (((accN (b.drop k) m j:Nat):Int) * 2 ^ 6)=((accN (b.drop k) m j * 64:Nat):Int):=by rw [IntWalk.i64_in _ (by omega)]; omega
    have e5:=and8 (byteN (b.drop k) (j + 1)) hlt
    have e6:IntKind.i64.wrap ((byteN (b.drop k) (j + 1) % 64:Nat):Int)=((byteN (b.drop k) (j + 1) % 64:Nat):Int):=IntWalk.i64_in _ (by omega)
    have e7:=or_acc (accN (b.drop k) m j) (byteN (b.drop k) (j + 1) % 64) (by omega) (by omega)
    try simp -implicitDefEqProofs (maxSteps:=1000000) only [go_sem,show Nat.min 6 64=6 from rfl,e1,List.getElem?_eq_getElem hidx,eb,e4,e5,e6,e7]
    repeat refine ⟨sc,?_⟩
    try exact sf
    exact ⟨j + 1,by rw [IntWalk.i64_in _ (by omega)]; rfl,⟨hjK,by simp only [contB,hc,h3,Bool.and_true]⟩,by omega⟩
theorem r_s_GetSign {Te:TE} (c_s_l1In:C_s_l1In Te) (c_s_l2Len:C_s_l2Len Te) (c_s_SignOk:C_s_SignOk Te) (c_s_PutSign:C_s_PutSign Te):C_s_GetSign (RF Te x_s_GetSign):=by
 intro b i hb
 by_cases hi:0≤i∧i < b.length
 ·obtain ⟨k,rfl⟩:∃ k:Nat,i=k:=⟨i.toNat,by omega⟩
  have hk:k < b.length:=by omega
  have hk':((k:Int)).toNat < b.length:=by omega
  have hld:(b.drop k).length=b.length - k:=List.length_drop
  have w1:IntKind.i64.wrap ((b.length:Int) - 1)=(b.length:Int) - 1:=IntWalk.i64_in _ (by omega)
  have w2:IntKind.i64.wrap ((b.length:Int) - (k:Int))=(b.length:Int) - (k:Int):=IntWalk.i64_in _ (by omega)
  have g:win (k:Int) 0 ((b.length:Int) - 1)=true:=by simp only [win,Bool.and_eq_true,decide_eq_true_eq]; omega
  have eb:b[k].toNat=byteN (b.drop k) 0:=by
   simp only [byteN,List.getD_eq_getElem?_getD,List.getElem?_drop,Nat.add_zero]
   rw [List.getElem?_eq_getElem hk]
   rfl
  have hlt:=byteN_lt (b.drop k) 0
  have w3:IntKind.i64.wrap ((byteN (b.drop k) 0:Nat):Int)=(byteN (b.drop k) 0:Nat):=IntWalk.i64_in _ (by omega)
  refine X1 x_s_GetSign.eq_1 w1 ?_
  refine C2 (c_s_l1In _ _ _) g (List.getElem?_eq_getElem hk) ?_
  refine C2 (c_s_l2Len _) eb w2 ?_
  have bad:(l2len (byteN (b.drop k) 0)=0∨(b.drop k).length < l2len (byteN (b.drop k) 0))→getSign b k=(0,0,false):=fun h=>getSign_bad hi (by rw [Int.toNat_natCast]; exact sign0 h (by omega))
  cases q0:(((l2len (byteN (b.drop k) 0):Nat):Int)==0)
  ·cases q1:decide (((l2len (byteN (b.drop k) 0):Nat):Int) > (b.length:Int) - (k:Int))
   ·have hK0:l2len (byteN (b.drop k) 0)≠0:=by
     intro e
     rw [e] at q0
     cases q0
    have hKl:l2len (byteN (b.drop k) 0)≤(b.drop k).length:=by simp only [decide_eq_false_iff_not] at q1; omega
    have tail:∀ K m:Nat,1≤K∧K≤4∧k + K≤b.length→m < 256→_:=fun K m h1 h2=>s_GetSign_tail c_s_SignOk c_s_PutSign b k K m hb h1 h2
    have eg:getSign b (k:Int)=getTail (b.drop k) k:=by
     cases hs:signAt (b.drop k) with
     | none=>rw [getTail_none hs,getSign_bad hi (by rw [Int.toNat_natCast]; exact hs)]
     | some d=>rw [getTail_some hs,getSign_good hi (by rw [Int.toNat_natCast]; exact hs)]
    rcases l2len_in _ hK0 with ⟨hK,hv⟩ | ⟨hK,hv⟩ | ⟨hK,hv⟩ | ⟨hK,hv⟩
    ·rw [hK] at hKl q0 q1
     have ek:decide (((1:Nat):Int) > 1)=false:=by decide
     rw [eg,tail1 (l:=b.drop k) (k:Int) (by omega) hv]
     simp -implicitDefEqProofs (maxSteps:=1000000) only [go_sem,hK,q0,q1,w2,w3,List.getElem?_eq_getElem hk,eb,ek]
     exact tail 1 (byteN (b.drop k) 0) (by omega) (by omega)
    ·rw [hK] at hKl q0 q1
     have ek:decide (((2:Nat):Int) > 1)=true:=by decide
     rw [eg,tail2 (l:=b.drop k) (k:Int) (by omega) hv]
     have em:andK .i64 ((byteN (b.drop k) 0:Nat):Int) ((31:Nat):Int)=((byteN (b.drop k) 0 % 32:Nat):Int):=and_mask _ 5 hlt (by decide)
     have ew:IntKind.u64.wrap ((2:Nat):Int)=((2:Nat):Int):=by decide
     have ef:Int.fdiv 127 (2 ^ Nat.min 2 64)=((31:Nat):Int):=by decide
     simp -implicitDefEqProofs (maxSteps:=1000000) only [go_sem,hK,q0,q1,w2,w3,List.getElem?_eq_getElem hk,eb,ek,ew,ef,em]
     exact tail 2 (byteN (b.drop k) 0 % 32) (by omega) (by omega)
    ·rw [hK] at hKl q0 q1
     have ek:decide (((3:Nat):Int) > 1)=true:=by decide
     rw [eg,tail3 (l:=b.drop k) (k:Int) (by omega) hv]
     have em:andK .i64 ((byteN (b.drop k) 0:Nat):Int) ((15:Nat):Int)=((byteN (b.drop k) 0 % 16:Nat):Int):=and_mask _ 4 hlt (by decide)
     have ew:IntKind.u64.wrap ((3:Nat):Int)=((3:Nat):Int):=by decide
     have ef:Int.fdiv 127 (2 ^ Nat.min 3 64)=((15:Nat):Int):=by decide
     simp -implicitDefEqProofs (maxSteps:=1000000) only [go_sem,hK,q0,q1,w2,w3,List.getElem?_eq_getElem hk,eb,ek,ew,ef,em]
     exact tail 3 (byteN (b.drop k) 0 % 16) (by omega) (by omega)
    ·rw [hK] at hKl q0 q1
     have ek:decide (((4:Nat):Int) > 1)=true:=by decide
     rw [eg,tail4 (l:=b.drop k) (k:Int) (by omega) hv]
     have em:andK .i64 ((byteN (b.drop k) 0:Nat):Int) ((7:Nat):Int)=((byteN (b.drop k) 0 % 8:Nat):Int):=and_mask _ 3 hlt (by decide)
     have ew:IntKind.u64.wrap ((4:Nat):Int)=((4:Nat):Int):=by decide
     have ef:Int.fdiv 127 (2 ^ Nat.min 4 64)=((7:Nat):Int):=by decide
     simp -implicitDefEqProofs (maxSteps:=1000000) only [go_sem,hK,q0,q1,w2,w3,List.getElem?_eq_getElem hk,eb,ek,ew,ef,em]
     exact tail 4 (byteN (b.drop k) 0 % 8) (by omega) (by omega)
   ·have e:=bad (.inr (by simp only [decide_eq_true_eq] at q1; omega))
    exact F4 q0 q1 w2 e
  ·have e:=bad (.inl (by have:=eq_of_beq q0; omega))
   exact F2 q0 e
 ·have e:=getSign_no hi
  have w1:IntKind.i64.wrap ((b.length:Int) - 1)=(b.length:Int) - 1:=IntWalk.i64_in _ (by omega)
  have g:win i 0 ((b.length:Int) - 1)=false:=by
   simp only [win,Bool.and_eq_false_imp,decide_eq_true_eq,decide_eq_false_iff_not]
   omega
  refine X1 x_s_GetSign.eq_1 w1 ?_
  exact D2 (c_s_l1In _ _ _) g e
def x_i_WriteSec:FnX:=⟨56,[.cell 6 (some 4)],
  .q [.v 3 0,.op 6 (.alloc [.nils 1,.nils 2,.i 0,.F])]
 (.q [.L 9 4 3,.c 10 245 [9],.op 7 (.alloc [.nils 1,.nils 2,.i 0,.F]),.s 100001 4 7 10]
 (.seq (.q [.L 11 4 3,.c 12 178 [11],.N 13 12,.m 14 13,.z 14 (.f 15 3 3),.z 14 (.l 16 15),.r 17 14 16,.m 18 17,.z 18 (.m 19 1),.z 18 (.f 20 3 0),.z 18 (.l 21 20),.z 18 (.n 22 21),.z 18 (.B 23 .sub 22 1),.z 18 (.op 24 (.call 90 [0,0,0] [(.t 19),(.i 0),(.t 23)])),.z 18 (.N 25 24),.r 26 18 25,.m 27 26,.z 27 (.m 28 2),.z 27 (.n 29 28),.z 27 (.B 30 .gtr 29 120),.r 31 27 30,.m 32 31,.z 32 (.f 33 3 1),.z 32 (.l 34 33),.z 32 (.n 35 34),.z 32 (.B 36 .eql 35 40),.r 37 32 36]
 (.c 37 (.q [.L 38 4 7,.s 100002 4 6 38]
 .ret)))
 (.q [.L 40 4 7,.op 41 (.call 311 [1] [(.t 40)]),.m 39 41,.e 42 39 0,.e 43 39 1,.s 100003 4 7 42,.m 8 43]
 (.seq (.q [.m 44 8]
 (.c 44 (.draw [.f 45 7 1,.l 46 45,.m 47 1,.m 48 2,.op 49 (.bslice 1 [(.t 48)]),.c 50 100 [49],.op 51 (.build [.i 0,.nils 1] [(0,1,(.t 47)),(1,1,(.t 50))]),.op 52 (.bslice 2 [(.t 51)]),.op 53 (.app 2 32 (.t 46) (.t 52)),.f 54 7 1,.s 100004 1 54 53] [[],[0],[],[],[3],[4],[2,5],[6],[1,7,5],[0,1,2,3,4,5,6,7,8],[9,8,8,0,1,2,3,4,5,6,7,8]])))
 (.q [.L 55 4 7,.s 100005 4 6 55]
 .ret)))))⟩
theorem r_i_WriteSec {Te:TE} (c_i_copyDev:C_i_copyDev Te) (c_i_DevOk:C_i_DevOk Te) (c_i_within:C_i_within Te) (c_i_burn:C_i_burn Te) (c_i_joined:C_i_joined Te):C_i_WriteSec (RF Te x_i_WriteSec):=by
 intro d n b hk hb
 have hin:=DevV.ok_in hk
 have hL:=hin.len (by decide)
 have hl:=hin.1.1
 have h40:=DevV.ok_cache hk
 have ws:IntKind.i64.wrap ((d.Secs.length:Int) - 1)=(d.Secs.length:Int) - 1:=IntWalk.i64_in _ (by omega)
 refine X0 x_i_WriteSec.eq_1 ?_
 refine C0 (c_i_copyDev d hL) ?_
 refine C1 (c_i_DevOk d (hin.mono (by decide))) hk ?_
 cases g1:d.Down
 rotate_left
 ·have e:=full_down (n:=n) (b:=b) g1
  try simp -implicitDefEqProofs (maxSteps:=1000000) only [go_sem,g1,e,take_all,DevV.enc]
  repeat refine ⟨sc,?_⟩
  try exact sf
  try rfl
 refine G2 g1 ws ?_
 refine C0 (c_i_within _ _ _) ?_
 cases g2:win n 0 ((d.Secs.length:Int) - 1)
 ·have e:=full_win (b:=b) g2
  try simp -implicitDefEqProofs (maxSteps:=1000000) only [go_sem,e,take_all,g1,DevV.enc]
  repeat refine ⟨sc,?_⟩
  try exact sf
  try rfl
 cases g3:decide ((b.length:Int) > 120)
 rotate_left
 ·have e:=full_len (d:=d) (n:=n) g3
  try simp -implicitDefEqProofs (maxSteps:=1000000) only [go_sem,g3,e,take_all,g1,DevV.enc]
  repeat refine ⟨sc,?_⟩
  try exact sf
  try rfl
 cases g4:decide ((d.Cache.length:Int)≥40)
 rotate_left
 ·have g5:((d.Cache.length:Int)==40)=true:=by simp only [decide_eq_true_eq] at g4; simp only [beq_iff_eq]; omega
  have e:=full_cache (n:=n) (b:=b) g4
  try simp -implicitDefEqProofs (maxSteps:=1000000) only [go_sem,g3,g5,e,take_all,g1,DevV.enc]
  repeat refine ⟨sc,?_⟩
  try exact sf
  try rfl
 have g5:((d.Cache.length:Int)==40)=false:=by simp only [decide_eq_false_iff_not] at g4; simp only [beq_eq_false_iff_ne]; omega
 have e:=not_full g1 g2 g3 g4
 refine G2 g3 g5 ?_
 have tb:=c_i_burn d
 simp only [DevV.enc,g1] at tb
 have bc:=burn_cache d
 have g40:d.burn.Cache.length < 40:=by rw [bc]; simp only [decide_eq_false_iff_not] at g4; omega
 cases g6:(d.Fuse==0)
 ·have g7:¬ d.Fuse=0:=by simpa using g6
  rw [if_neg g7] at e
  have ea:=app1W d.burn.Cache ⟨n,b⟩
  have et:List.take (d.burn.Cache.length + 1) (List.map (WrV.enc true) (d.burn.Cache++[⟨n,b⟩]))=List.map (WrV.enc true) (d.burn.Cache++[⟨n,b⟩]):=List.take_of_length_le (by simp)
  refine C1 (tb) g6 ?_
  refine .of (c_i_joined [b] (by rw [flat1]; omega) (by show 1≤2 ^ 31; decide)) ?_
  try simp -implicitDefEqProofs (maxSteps:=1000000) only [go_sem,flat1,take_all,ea,et,e,g1,DevV.put,DevV.enc]
  repeat refine ⟨sc,?_⟩
  try exact sf
  try rfl
 ·have g7:d.Fuse=0:=by simpa using g6
  rw [if_pos g7] at e
  refine .of (tb) ?_
  try simp -implicitDefEqProofs (maxSteps:=1000000) only [go_sem,g6,take_all,e,g1,DevV.enc]
  repeat refine ⟨sc,?_⟩
  try exact sf
  try rfl
def x_s_l10Write:FnX:=⟨53,[],
  .seq (.q [.m 6 0,.op 7 (.nilc (.t 6)),.f 8 7 3,.l 9 8,.m 10 9,.z 10 (.m 11 1),.z 10 (.m 12 0),.z 10 (.op 13 (.nilc (.t 12))),.z 10 (.f 14 13 0),.z 10 (.l 15 14),.z 10 (.n 16 15),.z 10 (.B 17 .sub 16 1),.z 10 (.op 18 (.call 120 [0,0,0] [(.t 11),(.i 0),(.t 17)])),.z 10 (.N 19 18),.r 20 10 19,.m 21 20,.z 21 (.m 22 2),.z 21 (.n 23 22),.z 21 (.B 24 .gtr 23 120),.r 25 21 24,.m 26 25,.z 26 (.m 27 0),.z 26 (.op 28 (.nilc (.t 27))),.z 26 (.f 29 28 1),.z 26 (.l 30 29),.z 26 (.n 31 30),.z 26 (.B 32 .geq 31 40),.r 33 26 32,.m 34 33,.z 34 (.m 35 0),.z 34 (.op 36 (.call 281 [6] [(.t 35)])),.z 34 (.N 37 36),.r 38 34 37]
 (.c 38 .ret))
 (.draw [.m 39 0,.m 40 0,.op 41 (.nilc (.t 40)),.f 42 41 1,.l 43 42,.m 44 1,.op 45 (.bslice 1 []),.m 46 2,.op 47 (.app 1 1 (.t 45) (.t 46)),.op 48 (.build [.i 0,.nils 1] [(0,1,(.t 44)),(1,1,(.t 47))]),.op 49 (.bslice 2 [(.t 48)]),.op 50 (.app 2 32 (.t 43) (.t 49)),.op 51 (.nilc (.t 39)),.f 52 51 1,.s 100001 1 52 50] [[],[],[1],[2],[3],[],[],[],[6,7],[5,8],[9],[4,10,8],[0,0,1,2,3,4,5,6,7,8,9,10,11],[12,0,1,2,3,4,5,6,7,8,9,10,11],[13,11,11,0,1,2,3,4,5,6,7,8,9,10,11]])⟩
theorem r_s_l10Write {Te:TE} (c_s_l1In:C_s_l1In Te) (c_s_l10Op:C_s_l10Op Te):C_s_l10Write (RF Te x_s_l10Write):=by
 intro d n b hd hb
 obtain ⟨hl,hc⟩:=hd
 have ws:IntKind.i64.wrap ((d.Secs.length:Int) - 1)=(d.Secs.length:Int) - 1:=IntWalk.i64_in _ (by omega)
 refine X0 x_s_l10Write.eq_1 ?_
 cases g1:d.Down
 rotate_left
 ·have e:=full_down (n:=n) (b:=b) g1
  try simp -implicitDefEqProofs (maxSteps:=1000000) only [go_sem,g1,e,take_all,DevV.enc]
  repeat refine ⟨sc,?_⟩
  try exact sf
  try rfl
 refine G2 g1 ws ?_
 refine C0 (c_s_l1In _ _ _) ?_
 cases g2:win n 0 ((d.Secs.length:Int) - 1)
 ·have e:=full_win (b:=b) g2
  try simp -implicitDefEqProofs (maxSteps:=1000000) only [go_sem,e,take_all,g1,DevV.enc]
  repeat refine ⟨sc,?_⟩
  try exact sf
  try rfl
 cases g3:decide ((b.length:Int) > 120)
 rotate_left
 ·have e:=full_len (d:=d) (n:=n) g3
  try simp -implicitDefEqProofs (maxSteps:=1000000) only [go_sem,g3,e,take_all,g1,DevV.enc]
  repeat refine ⟨sc,?_⟩
  try exact sf
  try rfl
 cases g4:decide ((d.Cache.length:Int)≥40)
 rotate_left
 ·have e:=full_cache (n:=n) (b:=b) g4
  try simp -implicitDefEqProofs (maxSteps:=1000000) only [go_sem,g3,g4,e,take_all,g1,DevV.enc]
  repeat refine ⟨sc,?_⟩
  try exact sf
  try rfl
 have e:=not_full g1 g2 g3 g4
 refine G2 g3 g4 ?_
 have tb:=c_s_l10Op d
 simp only [DevV.enc,g1] at tb
 have bc:=burn_cache d
 have g40:d.burn.Cache.length < 40:=by rw [bc]; simp only [decide_eq_false_iff_not] at g4; omega
 cases g6:(d.Fuse==0)
 ·have g7:¬ d.Fuse=0:=by simpa using g6
  rw [if_neg g7] at e
  have ea:=app1W d.burn.Cache ⟨n,b⟩
  have et:List.take (d.burn.Cache.length + 1) (List.map (WrV.enc true) (d.burn.Cache++[⟨n,b⟩]))=List.map (WrV.enc true) (d.burn.Cache++[⟨n,b⟩]):=List.take_of_length_le (by simp)
  refine .of (tb) ?_
  try simp -implicitDefEqProofs (maxSteps:=1000000) only [go_sem,g6,take_all,take_rows,ea,et,e,g1,DevV.put,DevV.enc]
  repeat refine ⟨sc,?_⟩
  try exact sf
  try rfl
 ·have g7:d.Fuse=0:=by simpa using g6
  rw [if_pos g7] at e
  refine .of (tb) ?_
  try simp -implicitDefEqProofs (maxSteps:=1000000) only [go_sem,g6,take_all,e,g1,DevV.enc]
  repeat refine ⟨sc,?_⟩
  try exact sf
  try rfl
def x_u_AppendRune:FnX:=⟨16,[.tmp 4],
  .q [.op 4 (.mv (.k (.one (.nils 1))))]
 (.seq (.q [.m 5 1,.op 6 (.conv (.int .u32) (.t 5)),.op 7 (.bin .leq (.t 6) (.k (.one (.pv (.int .u32 127)))))]
 (.c 7 (.q [.m 8 0,.m 9 1,.op 10 (.conv (.int .u8) (.t 9)),.op 11 (.bslice 1 [(.t 10)]),.op 12 (.app 1 1 (.t 8) (.t 11)),.m 4 12]
 .ret)))
 (.q [.m 13 0,.m 14 1,.op 15 (.call 328 [1,0] [(.t 13),(.t 14)]),.m 4 15]
 .ret))⟩
theorem r_u_AppendRune {Te:TE} (c_u_appendRuneNonASCII:C_u_appendRuneNonASCII Te):C_u_AppendRune (RF Te x_u_AppendRune):=by
 intro b m hb hm
 refine run0 ?_
 have w32:IntKind.u32.wrap (m:Int)=(m:Int):=by rw [IntKind.wrap_u32]; omega
 cases q:decide ((m:Int)≤127)
 ·have hq:¬ m≤127:=by simp only [decide_eq_false_iff_not] at q; omega
  simp -implicitDefEqProofs (maxSteps:=1000000) only [x_u_AppendRune,go_sem,w32,q]
  repeat refine ⟨sc,?_⟩
  try exact sf
  refine .of (c_u_appendRuneNonASCII b m hb ⟨by omega,hm⟩) ?_
  try simp -implicitDefEqProofs (maxSteps:=1000000) only [go_sem,List.length_append]
  repeat refine ⟨sc,?_⟩
  try exact sf
  rw [← List.length_append,take_map]
 ·have hq:m≤127:=by simp only [decide_eq_true_eq] at q; omega
  have ee:List.take (b.length + 1) (List.map uR b++[[uT (mkU (m:Int))]])=List.map uR (b++enc8 m):=by
   rw [List.take_of_length_le (by simp),mkU_nat]
   simp only [enc8,if_pos hq,List.map_append,List.map_cons,List.map_nil]
  simp -implicitDefEqProofs (maxSteps:=1000000) only [x_u_AppendRune,go_sem,w32,q,mkU_wrap,ee]
  repeat refine ⟨sc,?_⟩
  try exact sf
def x_i_PutSign:FnX:=⟨17,[.tmp 4],
  .q [.op 4 (.mv (.k (.one (.nils 1))))]
 (.q [.m 6 0,.op 7 (.bslice 1 [(.t 6)]),.c 8 100 [7],.m 5 8]
 (.seq (.q [.m 9 1,.c 10 270 [9],.N 11 10]
 (.c 11 (.q [.m 12 5,.m 4 12]
 .ret)))
 (.q [.m 13 5,.m 14 1,.op 15 (.conv (.int .i32) (.t 14)),.op 16 (.call 271 [1,0] [(.t 13),(.t 15)]),.m 4 16]
 .ret)))⟩
theorem r_i_PutSign {Te:TE} (c_i_joined:C_i_joined Te) (c_i_SignOk:C_i_SignOk Te) (c_u_AppendRune:C_u_AppendRune Te):C_i_PutSign (RF Te x_i_PutSign):=by
 intro b n hb
 refine X0 x_i_PutSign.eq_1 ?_
 refine .of (c_i_joined [b] (by rw [flat1]; omega) (by show 1≤2 ^ 31; decide)) ?_
 try simp -implicitDefEqProofs (maxSteps:=1000000) only [go_sem,flat1]
 repeat refine ⟨sc,?_⟩
 try exact sf
 refine C0 (c_i_SignOk _) ?_
 cases hn:signOk n
 ·try simp -implicitDefEqProofs (maxSteps:=1000000) only [go_sem,putSign,hn,if_false,take_map]
  repeat refine ⟨sc,?_⟩
  try exact sf
  try rfl
 ·obtain ⟨h0,h1,h2⟩:=signOk_in hn
  obtain ⟨m,rfl⟩:∃ m:Nat,n=m:=⟨n.toNat,by omega⟩
  have ep:putSign b (m:Int)=b++enc8 m:=by simp only [putSign,hn,if_true,Int.toNat_natCast]
  have w:IntKind.i32.wrap (m:Int)=(m:Int):=by rw [IntWalk.i32_in _ (by omega)]
  try simp -implicitDefEqProofs (maxSteps:=1000000) only [go_sem,w,take_map]
  repeat refine ⟨sc,?_⟩
  try exact sf
  refine .of (c_u_AppendRune b m hb ⟨by omega,by omega⟩) ?_
  try simp -implicitDefEqProofs (maxSteps:=1000000) only [go_sem,List.length_append]
  repeat refine ⟨sc,?_⟩
  try exact sf
  rw [ep]
  try rw [← List.length_append,take_map]
  try rfl
def x_i_ByteSign:FnX:=⟨35,[.tmp 4,.tmp 5],
  .q [.i 4 0,.F 5]
 (.seq (.q [.m 7 0,.op 8 (.call 90 [0,0,0] [(.t 7),(.i 1),(.i 4)]),.N 9 8,.m 10 9,.z 10 (.m 11 1),.z 10 (.op 12 (.call 90 [0,0,0] [(.t 11),(.i 0),(.i 255)])),.z 10 (.N 13 12),.r 14 10 13]
 (.c 14 (.q [.i 4 0,.F 5]
 .ret)))
 (.seq (.q [.m 15 1,.B 16 .leq 15 127]
 (.c 16 (.q [.m 17 1,.m 4 17,.T 5]
 .ret)))
 (.q [.m 18 1,.m 6 18]
 (.seq (.q [.m 19 0]
 (.block 0 (.q [.B 21 .eql 19 2,.m 20 21]
 (.cond 20 (.reg [.m 22 1,.c 23 325 [22],.m 6 23]) (.q [.B 25 .eql 19 3,.m 24 25]
 (.cond 24 (.reg [.m 26 1,.c 27 326 [26],.m 6 27]) (.q [.B 29 .eql 19 4,.m 28 29]
 (.c 28 (.reg [.m 30 1,.c 31 327 [30],.m 6 31])))))))))
 (.q [.m 32 6,.m 33 6,.B 34 .neq 33 0,.m 4 32,.m 5 34]
 .ret)))))⟩
theorem r_i_ByteSign {Te:TE} (c_i_within:C_i_within Te) (c_i_nineSign:C_i_nineSign Te) (c_i_koiSign:C_i_koiSign Te) (c_i_winSign:C_i_winSign Te):C_i_ByteSign (RF Te x_i_ByteSign):=by
 intro cs b
 refine X0 x_i_ByteSign.eq_1 ?_
 refine C0 (c_i_within _ _ _) ?_
 cases g1:win cs 1 4
 ·try simp -implicitDefEqProofs (maxSteps:=1000000) only [go_sem,byteSign,g1]
  repeat refine ⟨sc,?_⟩
  try exact sf
 ·refine G0 ?_
  refine C0 (c_i_within _ _ _) ?_
  cases g2:win b 0 255
  ·try simp -implicitDefEqProofs (maxSteps:=1000000) only [go_sem,byteSign,g1,g2]
   repeat refine ⟨sc,?_⟩
   try exact sf
  ·cases g3:decide (b≤127)
   ·have hb:128≤b∧b≤255:=by simp only [win,Bool.and_eq_true,decide_eq_true_eq] at g2; simp only [decide_eq_false_iff_not] at g3; omega
    refine G1 g3 ?_
    cases g4:(cs==2)
    ·cases g5:(cs==3)
     ·cases g6:(cs==4)
      ·try simp -implicitDefEqProofs (maxSteps:=1000000) only [go_sem,g4,g5,g6,byteSign,signOf,g1,g2,g3]
       repeat refine ⟨sc,?_⟩
       try exact sf
      ·refine G3 g4 g5 g6 ?_
       refine .of (c_i_winSign _ hb) ?_
       try simp -implicitDefEqProofs (maxSteps:=1000000) only [go_sem,byteSign,signOf,g1,g2,g3,g4,g5,g6]
       repeat refine ⟨sc,?_⟩
       try exact sf
     ·refine G2 g4 g5 ?_
      refine .of (c_i_koiSign _ hb) ?_
      try simp -implicitDefEqProofs (maxSteps:=1000000) only [go_sem,byteSign,signOf,g1,g2,g3,g4,g5]
      repeat refine ⟨sc,?_⟩
      try exact sf
    ·refine G1 g4 ?_
     refine .of (c_i_nineSign _) ?_
     try simp -implicitDefEqProofs (maxSteps:=1000000) only [go_sem,byteSign,signOf,g1,g2,g3,g4]
     repeat refine ⟨sc,?_⟩
     try exact sf
   ·try simp -implicitDefEqProofs (maxSteps:=1000000) only [go_sem,g3,byteSign,g1,g2]
    repeat refine ⟨sc,?_⟩
    try exact sf
def x_s_ByteSign:FnX:=⟨34,[.tmp 4,.tmp 5],
  .q [.i 4 0,.F 5]
 (.seq (.q [.m 7 0,.op 8 (.call 120 [0,0,0] [(.t 7),(.i 1),(.i 4)]),.N 9 8,.m 10 9,.z 10 (.m 11 1),.z 10 (.op 12 (.call 120 [0,0,0] [(.t 11),(.i 0),(.i 255)])),.z 10 (.N 13 12),.r 14 10 13]
 (.c 14 (.q [.i 4 0,.F 5]
 .ret)))
 (.q [.m 15 1,.m 6 15]
 (.seq (.q [.m 16 1,.B 17 .geq 16 128]
 (.c 17 (.q [.m 18 0]
 (.block 0 (.q [.B 20 .eql 18 2,.m 19 20]
 (.cond 19 (.reg [.m 21 1,.c 22 331 [21],.m 6 22]) (.q [.B 24 .eql 18 3,.m 23 24]
 (.cond 23 (.reg [.m 25 1,.c 26 332 [25],.m 6 26]) (.q [.B 28 .eql 18 4,.m 27 28]
 (.c 27 (.reg [.m 29 1,.c 30 333 [29],.m 6 30])))))))))))
 (.seq (.q [.m 31 6,.B 32 .lss 31 0]
 (.c 32 (.q [.i 4 0,.F 5]
 .ret)))
 (.q [.m 33 6,.m 4 33,.T 5]
 .ret)))))⟩
theorem r_s_ByteSign {Te:TE} (c_s_l1In:C_s_l1In Te) (c_s_l3Nine:C_s_l3Nine Te) (c_s_l3Koi:C_s_l3Koi Te) (c_s_l3Win:C_s_l3Win Te):C_s_ByteSign (RF Te x_s_ByteSign):=by
 intro cs b
 refine X0 x_s_ByteSign.eq_1 ?_
 refine C0 (c_s_l1In _ _ _) ?_
 cases g1:win cs 1 4
 ·try simp -implicitDefEqProofs (maxSteps:=1000000) only [go_sem,byteSign,g1]
  repeat refine ⟨sc,?_⟩
  try exact sf
 ·refine G0 ?_
  refine C0 (c_s_l1In _ _ _) ?_
  cases g2:win b 0 255
  ·try simp -implicitDefEqProofs (maxSteps:=1000000) only [go_sem,byteSign,g1,g2]
   repeat refine ⟨sc,?_⟩
   try exact sf
  ·have h2:0≤b∧b≤255:=by simpa only [win,Bool.and_eq_true,decide_eq_true_eq] using g2
   cases g3:decide (b≥128)
   ·have g3':decide (b≤127)=true:=by simp only [decide_eq_false_iff_not] at g3; exact decide_eq_true (by omega)
    have g7:decide (b < 0)=false:=decide_eq_false (by omega)
    try simp -implicitDefEqProofs (maxSteps:=1000000) only [go_sem,g3,g7,byteSign,g1,g2,g3']
    repeat refine ⟨sc,?_⟩
    try exact sf
   ·have hb:128≤b∧b≤255:=by simp only [decide_eq_true_eq] at g3; omega
    have g3':decide (b≤127)=false:=decide_eq_false (by omega)
    refine G1 g3 ?_
    cases g4:(cs==2)
    ·cases g5:(cs==3)
     ·cases g6:(cs==4)
      ·have g7:decide (b < 0)=false:=decide_eq_false (by omega)
       have g8:(b != 0)=true:=by simp; omega
       try simp -implicitDefEqProofs (maxSteps:=1000000) only [go_sem,g4,g5,g6,g7,g8,byteSign,signOf,g1,g2,g3']
       repeat refine ⟨sc,?_⟩
       try exact sf
      ·refine G3 g4 g5 g6 ?_
       refine C0 (c_s_l3Win _ hb) ?_
       obtain ⟨w1,w2⟩:=win_rel hb
       cases g9:(winB winL b==0)
       ·have g7:decide (winB winL b < 0)=false:=decide_eq_false (by omega)
        have g8:(winB winL b != 0)=true:=by simpa using g9
        simp only [g9,cond_false] at w1
        try simp -implicitDefEqProofs (maxSteps:=1000000) only [go_sem,w1,g7,g8,byteSign,signOf,g1,g2,g3',g4,g5,g6]
        repeat refine ⟨sc,?_⟩
        try exact sf
       ·have g8:winB winL b=0:=by simpa using g9
        simp only [g9,cond_true] at w1
        try simp -implicitDefEqProofs (maxSteps:=1000000) only [go_sem,w1,g8,byteSign,signOf,g1,g2,g3',g4,g5,g6]
        repeat refine ⟨sc,?_⟩
        try exact sf
        try rfl
     ·refine G2 g4 g5 ?_
      refine C0 (c_s_l3Koi _ hb) ?_
      obtain ⟨w1,w2⟩:=koi_rel hb
      cases g9:(koi 0 b==0)
      ·have g7:decide (koi 0 b < 0)=false:=decide_eq_false (by omega)
       have g8:(koi 0 b != 0)=true:=by simpa using g9
       simp only [g9,cond_false] at w1
       try simp -implicitDefEqProofs (maxSteps:=1000000) only [go_sem,w1,g7,g8,byteSign,signOf,g1,g2,g3',g4,g5]
       repeat refine ⟨sc,?_⟩
       try exact sf
      ·have g8:koi 0 b=0:=by simpa using g9
       simp only [g9,cond_true] at w1
       try simp -implicitDefEqProofs (maxSteps:=1000000) only [go_sem,w1,g8,byteSign,signOf,g1,g2,g3',g4,g5]
       repeat refine ⟨sc,?_⟩
       try exact sf
       try rfl
    ·refine G1 g4 ?_
     refine C0 (c_s_l3Nine _) ?_
     have w1:=nine_rel hb
     have g7:decide (nine b < 0)=false:=decide_eq_false (by omega)
     have g8:(nine b != 0)=true:=by simp; omega
     try simp -implicitDefEqProofs (maxSteps:=1000000) only [go_sem,g7,g8,byteSign,signOf,g1,g2,g3',g4]
     repeat refine ⟨sc,?_⟩
     try exact sf
def x_s_DrawNodeStep:FnX:=⟨14,[.cell 2 (some 10),.tmp 3],
  .q [.op 2 (.alloc [.nils 1,.nils 2,.i 0,.F,.nils 7,.i 0,.nils 3,.i 0,.i 0,.i 0]),.op 3 (.mv (.k (.one (.pv (.string ⟨#[]⟩)))))]
 (.q [.m 6 0,.c 7 58 [6],.m 4 7]
 (.q [.m 8 4,.op 9 (.call 92 [5,0] [(.t 8),(.i 14)]),.op 5 (.alloc [.nils 1,.nils 2,.i 0,.F,.nils 7,.i 0,.nils 3,.i 0,.i 0,.i 0]),.s 100001 10 5 9]
 (.seq (.draw [.L 10 10 5,.m 11 4,.op 12 (.bslice 1 [(.k (.one (.pv (.string ⟨#[]⟩)))),(.k (.one (.pv (.string ⟨#[]⟩)))),(.k (.one (.pv (.string ⟨#[97]⟩)))),(.k (.one (.pv (.string ⟨#[98]⟩)))),(.k (.one (.pv (.string ⟨#[99]⟩)))),(.k (.one (.pv (.string ⟨#[122,122]⟩))))]),.op 13 (.call 114 [5,1] [(.t 11),(.t 12)]),.s 100002 10 2 10,.m 3 13] [[],[],[],[1,2],[0,3,0],[3,4,0,1,2,3,4]])
 .ret)))⟩
theorem r_s_DrawNodeStep {Te:TE} (c_s_l1New:C_s_l1New Te) (c_s_l15Any:C_s_l15Any Te) (c_s_l1Str:C_s_l1Str Te):∀ (l:List UInt8) (hl:l.length≤2 ^ 31),∃ r0,(∃ (n:NodeV) (f:ByteArray),(n.In (2 ^ 20))∧r0=(⟨[.agg (n.enc true),.one (sT f)],[[slT false 1 uR l]]⟩:Res))∧RunFn Te x_s_DrawNodeStep [.one (slT false 1 uR l)] r0:=by
 intro l hl
 refine some_of (Nat.le_of_ble_eq_true rfl) (by rfl) ?_
 simp -implicitDefEqProofs (maxSteps:=1000000) only [x_s_DrawNodeStep,go_sem]
 repeat refine ⟨sc,?_⟩
 try exact sf
 obtain ⟨c,hc,ht⟩:=c_s_l1New l hl
 refine C0 (ht) ?_
 obtain ⟨n,d,⟨⟨hn,_⟩,hd⟩,ht⟩:=c_s_l15Any c 14 hc (by decide)
 refine C0 (ht) ?_
 obtain ⟨f,d,⟨_,hd⟩,ht⟩:=c_s_l1Str d [⟨#[]⟩,⟨#[]⟩,⟨#[97]⟩,⟨#[98]⟩,⟨#[99]⟩,⟨#[122,122]⟩] hd (by decide)
 refine C0 (ht) ?_
 exact ⟨n,f,hn,rfl⟩
def x_s_NodePhase:FnX:=⟨30,[.cell 4 (some 10),.tmp 5],
  .q [.v 2 0,.op 4 (.alloc [.nils 1,.nils 2,.i 0,.F,.nils 7,.i 0,.nils 3,.i 0,.i 0,.i 0]),.F 5]
 (.q [.L 7 10 2,.c 8 65 [7],.op 6 (.alloc [.nils 1,.nils 2,.i 0,.F,.nils 7,.i 0,.nils 3,.i 0,.i 0,.i 0]),.s 100001 10 6 8]
 (.seq (.q [.L 9 10 2,.c 10 64 [9],.N 11 10]
 (.c 11 (.q [.L 12 10 6,.s 100002 10 4 12,.F 5]
 .ret)))
 (.seq (.q [.f 13 2 0,.f 14 13 4,.f 15 14 1,.l 16 15,.m 17 1,.c 18 113 [16,17]]
 (.c 18 (.reg [.f 19 6 0,.m 20 1,.op 21 (.build [.i 0,.e,.i 0,.nils 1,.i 0,.nils 1,.i 0,.F,.e,.i 0,.i 0,.i 0,.i 0] [(0,1,(.i 3)),(9,1,(.t 20))]),.op 22 (.call 103 [11,0] [(.t 19),(.t 21)])])))
 (.seq (.draw [.L 23 10 6,.f 24 6 0,.f 25 24 4,.f 26 25 1,.l 27 26,.m 28 1,.b 29 .eql 27 28,.s 100003 10 4 23,.m 5 29] [[],[],[1],[2],[3],[],[4,5],[0,0],[6,7,0,1,2,3,4,5,6,7]])
 .ret))))⟩
theorem r_s_NodePhase {Te:TE} (c_s_l15Copy:C_s_l15Copy Te) (c_s_l15Up:C_s_l15Up Te) (c_s_NextOk:C_s_NextOk Te) (c_s_l13Add:C_s_l13Add Te):C_s_NodePhase (RF Te x_s_NodePhase):=by
 intro n p hn
 have hL:=hn.len (by decide)
 refine X0 x_s_NodePhase.eq_1 ?_
 refine C0 (c_s_l15Copy n hL) ?_
 refine C0 (c_s_l15Up n (hn.mono (by decide))) ?_
 cases g1:n.up
 ·have e:n.phase p=(n,false):=by rw [NodeV.phase,g1]; rfl
  exact F1 e
 obtain ⟨k1,k2,_⟩:=up_ok g1
 have e:n.phase p=(n.phase1 p,(n.phase1 p).S.T.Phase==p):=by rw [NodeV.phase,g1]; rfl
 refine G0 ?_
 refine C0 (c_s_NextOk _ _) ?_
 cases g2:nextOk n.S.T.Phase p
 ·have e1:n.phase1 p=n:=by rw [NodeV.phase1,g2]; rfl
  exact F2 e e1
 ·have e1:n.phase1 p=n.added (recPh p):=by rw [NodeV.phase1,g2]; rfl
  refine G0 ?_
  refine .of (c_s_l13Add n.S (recPh p) k1 k2 hn.2 (recPh_in p _)) ?_
  try simp -implicitDefEqProofs (maxSteps:=1000000) only [go_sem,e,e1,NodeV.added,NodeV.enc,take_all,take_marks]
  repeat refine ⟨sc,?_⟩
  try exact sf
  try rfl
def x_i_NodeLoad:FnX:=⟨62,[.cell 6 (some 10),.tmp 7],
  .q [.v 3 0,.op 6 (.alloc [.nils 1,.nils 2,.i 0,.F,.nils 7,.i 0,.nils 3,.i 0,.i 0,.i 0]),.i 7 0]
 (.seq (.q [.L 12 10 3,.c 13 82 [12],.N 14 13,.m 15 14,.z 15 (.m 16 1),.z 15 (.c 17 98 [16]),.z 15 (.N 18 17),.r 19 15 18,.m 20 19,.z 20 (.m 21 2),.z 20 (.n 22 21),.z 20 (.B 23 .gtr 22 20),.r 24 20 23]
 (.c 24 (.q [.L 25 10 3,.c 26 60 [25],.s 100001 10 6 26,.i 7 1]
 .ret)))
 (.seq (.q [.f 27 3 0,.f 28 27 4,.f 29 28 1,.l 30 29,.B 31 .neq 30 0]
 (.c 31 (.q [.L 32 10 3,.c 33 60 [32],.s 100002 10 6 33,.i 7 6]
 .ret)))
 (.q [.f 35 3 9,.l 36 35,.m 37 2,.c 38 99 [36,37],.m 34 38,.e 39 34 0,.e 40 34 1,.m 8 39,.m 9 40]
 (.seq (.draw [.m 41 1,.f 42 3 9,.l 43 42,.m 44 2,.op 45 (.bslice 1 [(.t 44)]),.c 46 100 [45],.op 47 (.build [.i 0,.nils 1] [(0,1,(.t 43)),(1,1,(.t 46))]),.m 48 9,.N 49 48,.op 50 (.build [.e,.i 0,.nils 1,.i 0,.nils 1,.i 0,.F] [(0,1,(.t 41)),(1,2,(.t 47)),(5,1,(.i 1)),(6,1,(.t 49))]),.op 10 (.alloc [.e,.i 0,.nils 1,.i 0,.nils 1,.i 0,.F]),.s 100003 7 10 50] [[],[],[1],[],[3],[4],[2,5],[],[7],[0,6,8],[],[10,9,5,0,1,2,3,4,5,6,7,8,9,10]])
 (.q [.L 52 10 3,.L 53 7 10,.op 54 (.build [.i 0,.e,.i 0,.nils 1,.i 0,.nils 1,.i 0,.F,.e,.i 0,.i 0,.i 0,.i 0] [(0,1,(.i 1)),(1,7,(.t 53))]),.c 55 86 [52,54],.m 51 55,.e 56 51 0,.e 57 51 1,.op 11 (.alloc [.nils 1,.nils 2,.i 0,.F,.nils 7,.i 0,.nils 3,.i 0,.i 0,.i 0]),.s 100004 10 11 56,.m 9 57]
 (.seq (.q [.m 58 9,.N 59 58]
 (.c 59 (.q [.L 60 10 11,.s 100005 10 6 60,.i 7 5]
 .ret)))
 (.q [.L 61 10 11,.s 100006 10 6 61,.i 7 0]
 .ret)))))))⟩
theorem r_i_NodeLoad {Te:TE} (c_i_isUp:C_i_isUp Te) (c_i_NameOk:C_i_NameOk Te) (c_i_copyNode:C_i_copyNode Te) (c_i_Decode:C_i_Decode Te) (c_i_joined:C_i_joined Te) (c_i_added:C_i_added Te):C_i_NodeLoad (RF Te x_i_NodeLoad):=by
 intro n key b hn hk hb
 have hL:=hn.len (by decide)
 refine X0 x_i_NodeLoad.eq_1 ?_
 refine C0 (c_i_isUp n (hn.mono (by decide))) ?_
 cases g1:n.up
 ·have e:n.load key b=(n,1):=by rw [NodeV.load,g1]; rfl
  refine G0 ?_
  exact D1 (c_i_copyNode n hL) e
 refine G0 ?_
 refine C0 (c_i_NameOk key (by omega)) ?_
 cases g2:nameOk key
 ·have e:n.load key b=(n,1):=by rw [NodeV.load,g1,g2]; rfl
  refine G0 ?_
  exact D1 (c_i_copyNode n hL) e
 cases g3:decide ((b.length:Int)≤20)
 ·have e:n.load key b=(n,1):=by rw [NodeV.load,g1,g2,g3]; rfl
  try simp -implicitDefEqProofs (maxSteps:=1000000) only [go_sem,gt20,g3]
  repeat refine ⟨sc,?_⟩
  try exact sf
  exact D1 (c_i_copyNode n hL) e
 cases g4:(n.S.T.Phase==0)
 ·have e:n.load key b=(n,6):=by rw [NodeV.load,g1,g2,g3,g4]; rfl
  have g5:(n.S.T.Phase != 0)=true:=by rw [bne_not,g4]; rfl
  try simp -implicitDefEqProofs (maxSteps:=1000000) only [go_sem,gt20,g3,g4,g5]
  repeat refine ⟨sc,?_⟩
  try exact sf
  exact D1 (c_i_copyNode n hL) e
 have g5:(n.S.T.Phase != 0)=false:=by rw [bne_not,g4]; rfl
 have e:n.load key b=(n.added (loadRec n key b),bif (n.S.add (loadRec n key b)).2 then 0 else 5):=by rw [NodeV.load,g1,g2,g3,g4]; rfl
 have t1:=c_i_joined [b] (by simp only [flat1]; omega) (by simp)
 rw [flat1] at t1
 have t2:=c_i_added n (loadRec n key b) hn (loadRec_in n hk hb)
 cases g6:(decode n.Cs b).2
 all_goals
  simp only [loadRec,g6,Bool.not_false,Bool.not_true] at t2 e
  try simp -implicitDefEqProofs (maxSteps:=1000000) only [go_sem,gt20,g3,g4,g5]
  repeat refine ⟨sc,?_⟩
  try exact sf
  refine .of (c_i_Decode n.Cs b hb) ?_
  try simp -implicitDefEqProofs (maxSteps:=1000000) only [go_sem,take_rows]
  repeat refine ⟨sc,?_⟩
  try exact sf
  rw [g6]
  try simp -implicitDefEqProofs (maxSteps:=1000000) only [go_sem,g6,take_rows]
  repeat refine ⟨sc,?_⟩
  try exact sf
  refine .of (t1) ?_
  try simp -implicitDefEqProofs (maxSteps:=1000000) only [go_sem,take_rows]
  repeat refine ⟨sc,?_⟩
  try exact sf
  refine .of (t2) ?_
  try simp -implicitDefEqProofs (maxSteps:=1000000) only [go_sem,take_all,take_marks]
  repeat refine ⟨sc,?_⟩
  try exact sf
  cases g7:(n.S.add (RecV.mk 1 ⟨key,⟨n.Cs,b⟩,⟨0,[]⟩,1,!(decode n.Cs b).2⟩ ⟨#[]⟩ 0 0 0 0)).2
  all_goals
   rw [g6] at g7
   simp only [Bool.not_false,Bool.not_true] at g7
   try simp -implicitDefEqProofs (maxSteps:=1000000) only [go_sem,g7,e,NodeV.added,NodeV.enc,take_all,take_marks]
   repeat refine ⟨sc,?_⟩
   try exact sf
   try rfl
end Go.X

