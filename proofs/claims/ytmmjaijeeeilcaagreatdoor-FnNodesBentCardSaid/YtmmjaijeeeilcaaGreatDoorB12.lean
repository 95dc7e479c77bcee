/- Texts: CVe_3 CVr_2 CVzr_3 CF CR_2 CVzt_2 CVb_2 CVj_2 CVla_2 CVn_2 CVx_2. -/
import Derived.Test.YtmmjaijeeeilcaaGreatDoorB04
set_option linter.unusedVariables false
set_option linter.unusedSimpArgs false
namespace Go.X
set_option maxRecDepth 100000
set_option maxHeartbeats 8000000
def x_s_RowOk:FnX:=⟨106,[.tmp 2],
  .q [.v 1 0,.F 2]
 (.seq (.q [.f 7 1 0,.l 8 7,.c 9 101 [8],.N 10 9,.m 11 10,.z 11 (.f 12 1 5),.z 11 (.l 13 12),.z 11 (.op 14 (.call 120 [0,0,0] [(.t 13),(.i 1),(.i 3)])),.z 11 (.N 15 14),.r 16 11 15,.m 17 16,.z 17 (.L 18 7 1),.z 17 (.c 19 291 [18]),.z 17 (.N 20 19),.z 17 (.m 21 20),.y 21 (.f 22 1 1),.y 21 (.L 23 2 22),.y 21 (.c 24 339 [23]),.y 21 (.N 25 24),.z 17 (.a 26 21 25),.r 27 17 26,.m 28 27,.z 28 (.L 29 7 1),.z 28 (.c 30 196 [29]),.z 28 (.N 31 30),.z 28 (.m 32 31),.y 32 (.f 33 1 3),.y 32 (.L 34 2 33),.y 32 (.c 35 339 [34]),.y 32 (.N 36 35),.z 28 (.a 37 32 36),.r 38 28 37]
 (.c 38 (.q [.F 2]
 .ret)))
 (.q [.f 40 1 1,.L 41 2 40,.c 42 197 [41],.m 39 42,.e 43 39 0,.e 44 39 1,.m 3 43,.m 4 44]
 (.q [.f 46 1 3,.L 47 2 46,.c 48 197 [47],.m 45 48,.e 49 45 0,.e 50 45 1,.m 5 49,.m 6 50]
 (.seq (.block 0 (.q [.L 52 7 1,.c 53 291 [52],.m 54 53,.y 54 (.f 55 1 1),.y 54 (.f 56 55 0),.y 54 (.l 57 56),.y 54 (.op 58 (.call 120 [0,0,0] [(.t 57),(.i 1),(.i 5)])),.y 54 (.N 59 58),.y 54 (.m 60 59),.z 60 (.f 61 1 1),.z 60 (.L 62 2 61),.z 60 (.c 63 286 [62]),.z 60 (.N 64 63),.y 54 (.r 65 60 64),.a 66 54 65,.m 51 66]
 (.cond 51 (.q [.F 2]
 .ret) (.q [.L 68 7 1,.c 69 196 [68],.m 70 69,.y 70 (.f 71 1 3),.y 70 (.f 72 71 0),.y 70 (.l 73 72),.y 70 (.B 74 .neq 73 0),.y 70 (.m 75 74),.z 75 (.m 76 6),.z 75 (.N 77 76),.y 70 (.r 78 75 77),.a 79 70 78,.m 67 79]
 (.cond 67 (.q [.F 2]
 .ret) (.q [.L 81 7 1,.c 82 291 [81],.m 83 82,.y 83 (.m 84 4),.y 83 (.N 85 84),.a 86 83 85,.m 87 86,.y 87 (.f 88 1 6),.y 87 (.l 89 88),.y 87 (.N 90 89),.y 87 (.m 91 90),.z 91 (.L 92 7 1),.z 91 (.c 93 196 [92]),.y 87 (.r 94 91 93),.a 95 87 94,.m 80 95]
 (.c 80 (.q [.F 2]
 .ret))))))))
 (.q [.f 96 1 5,.l 97 96,.B 98 .neq 97 3,.m 99 98,.z 99 (.f 100 1 1),.z 99 (.L 101 2 100),.z 99 (.f 102 1 3),.z 99 (.L 103 2 102),.z 99 (.c 104 340 [101,103]),.r 105 99 104,.m 2 105]
 .ret)))))⟩
theorem r_s_RowOk {Te:TE} (c_s_NameOk:C_s_NameOk Te) (c_s_l1In:C_s_l1In Te) (c_s_l9Old:C_s_l9Old Te) (c_s_l9None:C_s_l9None Te) (c_s_l9New:C_s_l9New Te) (c_s_CellText:C_s_CellText Te) (c_s_CellOk:C_s_CellOk Te) (c_s_SameText:C_s_SameText Te):C_s_RowOk (RF Te x_s_RowOk):=by
 intro r h
 obtain ⟨hk,_⟩:=h
 refine X0 x_s_RowOk.eq_1 ?_
 refine C0 (c_s_NameOk r.Key hk) ?_
 cases g1:nameOk r.Key
 ·have e:=rowOk_name (r:=r) g1
  exact F1 e
 refine G0 ?_
 refine C0 (c_s_l1In _ _ _) ?_
 cases g2:win r.Has 1 3
 ·have e:=rowOk_has (r:=r) g2
  exact F1 e
 have h3:=win13 g2
 obtain ⟨key,old,new,has,aside⟩:=r
 simp only at h3 g1 hk
 clear g2
 rcases h3 with rfl | rfl | rfl
 ·skip
  have e:=rowOk_1 (o:=old) (n:=new) (a:=aside) g1
  refine G0 ?_
  refine C0 (c_s_l9Old ⟨key,old,new,1,aside⟩ (by simp)) ?_
  refine C0 (c_s_l9New ⟨key,old,new,1,aside⟩ (by simp)) ?_
  refine C0 (c_s_l9None new) ?_
  cases n1:new.no
  ·exact F2 n1 e
  refine G1 n1 ?_
  refine C0 (c_s_CellText old) ?_
  refine C0 (c_s_CellText new) ?_
  refine C0 (c_s_l9Old ⟨key,old,new,1,aside⟩ (by simp)) ?_
  refine C0 (c_s_l1In _ _ _) ?_
  cases w:win old.Tag 1 5
  ·have e2:=tag_no w
   exact F3 w e e2
  have t:=tag_yes w
  refine G1 w ?_
  refine C0 (c_s_CellOk old) ?_
  cases o1:old.ok
  ·exact F2 o1 e
  refine G1 o1 ?_
  refine C0 (c_s_l9New ⟨key,old,new,1,aside⟩ (by simp)) ?_
  refine C0 (c_s_l9Old ⟨key,old,new,1,aside⟩ (by simp)) ?_
  cases o3:old.text.2
  ·cases aside
   ·exact F4 o3 e o1 t
   ·refine G1 o3 ?_
    refine .of (c_s_l9New ⟨key,old,new,1,true⟩ (by simp)) ?_
    try simp -implicitDefEqProofs (maxSteps:=1000000) only [go_sem,e,o1,t,o3,n1]
    repeat refine ⟨sc,?_⟩
    try exact sf
  ·try simp -implicitDefEqProofs (maxSteps:=1000000) only [go_sem,o3,e,o1,t,n1]
   repeat refine ⟨sc,?_⟩
   try exact sf
 ·skip
  have e:=rowOk_2 (o:=old) (n:=new) (a:=aside) g1
  refine G0 ?_
  refine C0 (c_s_l9Old ⟨key,old,new,2,aside⟩ (by simp)) ?_
  refine C0 (c_s_l9None old) ?_
  cases o1:old.no
  ·exact F2 o1 e
  refine G1 o1 ?_
  refine C0 (c_s_l9New ⟨key,old,new,2,aside⟩ (by simp)) ?_
  refine C0 (c_s_CellText old) ?_
  refine C0 (c_s_CellText new) ?_
  refine C0 (c_s_l9Old ⟨key,old,new,2,aside⟩ (by simp)) ?_
  refine C0 (c_s_l9New ⟨key,old,new,2,aside⟩ (by simp)) ?_
  cases n1:(new.Tag==0)
  ·have n1':(new.Tag != 0)=true:=by rw [bne,n1]; rfl
   exact F3 n1' e n1
  have n1':(new.Tag != 0)=false:=by rw [bne,n1]; rfl
  cases n2:new.text.2
  ·exact F3 n1' n2 e
  refine G2 n1' n2 ?_
  exact D4 (c_s_l9Old ⟨key,old,new,2,aside⟩ (by simp)) e o1 n1 n2
 ·skip
  have e:=rowOk_3 (o:=old) (n:=new) (a:=aside) g1
  refine G0 ?_
  refine C0 (c_s_l9Old ⟨key,old,new,3,aside⟩ (by simp)) ?_
  refine C0 (c_s_l9New ⟨key,old,new,3,aside⟩ (by simp)) ?_
  refine C0 (c_s_CellText old) ?_
  refine C0 (c_s_CellText new) ?_
  refine C0 (c_s_l9Old ⟨key,old,new,3,aside⟩ (by simp)) ?_
  refine C0 (c_s_l1In _ _ _) ?_
  cases w:win old.Tag 1 5
  ·have e2:=tag_no w
   exact F3 w e e2
  have t:=tag_yes w
  refine G1 w ?_
  refine C0 (c_s_CellOk old) ?_
  cases o1:old.ok
  ·exact F2 o1 e
  refine G1 o1 ?_
  refine C0 (c_s_l9New ⟨key,old,new,3,aside⟩ (by simp)) ?_
  cases n1:(new.Tag==0)
  ·have n1':(new.Tag != 0)=true:=by rw [bne,n1]; rfl
   exact F3 n1' e n1
  have n1':(new.Tag != 0)=false:=by rw [bne,n1]; rfl
  cases n2:new.text.2
  ·exact F3 n1' n2 e
  refine G2 n1' n2 ?_
  refine C0 (c_s_l9Old ⟨key,old,new,3,aside⟩ (by simp)) ?_
  cases o3:old.text.2
  ·cases aside
   ·exact F4 o3 e o1 t
   ·refine G1 o3 ?_
    exact D2 (c_s_l9New ⟨key,old,new,3,true⟩ (by simp)) e o3
  refine G1 o3 ?_
  refine .of (c_s_SameText old new) ?_
  try simp -implicitDefEqProofs (maxSteps:=1000000) only [go_sem,e,o1,t,o3,n1,n2]
  repeat refine ⟨sc,?_⟩
  try exact sf
def x_s_l12Row:FnX:=⟨55,[.tmp 4],
  .q [.v 3 1,.op 4 (.mv (.k (.one (.nils 7))))]
 (.q [.op 8 (.bslice 7 []),.m 5 8]
 (.q [.F 6]
 (.seq (.q [.i 7 0]
 (.block 0 (.loop [0,3,5,6,7] (.seq (.q [.m 9 7,.m 10 0,.n 11 10,.b 12 .lss 9 11]
 (.cond 12 .skip (.exit 0)))
 (.seq (.block 1 (.seq (.seq (.draw [.m 15 6,.N 16 15,.m 17 16,.y 17 (.m 18 0),.y 17 (.m 19 7),.y 17 (.x 20 7 18 19),.y 17 (.f 21 20 0),.y 17 (.l 22 21),.y 17 (.f 23 3 0),.y 17 (.l 24 23),.y 17 (.b 25 .geq 22 24),.a 26 17 25] [[],[0],[1],[2],[2],[3,4,2],[5,2],[6,2],[2],[8,2],[7,9,2],[2,10]])
 (.c 26 (.q [.m 27 5,.L 28 7 3,.c 29 288 [28],.op 30 (.bslice 7 [(.t 29)]),.op 31 (.app 7 96 (.t 27) (.t 30)),.m 5 31]
 (.reg [.T 6]))))
 (.seq (.draw [.m 32 0,.m 33 7,.x 34 7 32 33,.f 35 34 0,.l 36 35,.f 37 3 0,.l 38 37,.b 39 .neq 36 38] [[],[],[0,1],[2],[3],[],[5],[4,6]])
 (.c 39 (.reg [.m 40 5,.m 41 0,.m 42 7,.x 43 7 41 42,.L 44 7 43,.op 45 (.bslice 7 [(.t 44)]),.op 46 (.app 7 96 (.t 40) (.t 45)),.m 5 46])))))
 (.reg [.m 13 7,.B 14 .add 13 1,.m 7 14]))))))
 (.norm [3,5,6] (.seq (.q [.m 47 6,.N 48 47]
 (.c 48 (.reg [.m 49 5,.L 50 7 3,.c 51 288 [50],.op 52 (.bslice 7 [(.t 51)]),.op 53 (.app 7 96 (.t 49) (.t 52)),.m 5 53])))
 (.q [.m 54 5,.m 4 54]
 .ret))))))⟩
theorem r_s_l12Row {Te:TE} (c_s_l9Copy:C_s_l9Copy Te):C_s_l12Row (RF Te x_s_l12Row):=by
 intro l r h hr
 refine X0 x_s_l12Row.eq_1 ?_
 refine loop_of (σ:=Nat×List RowV×Bool) (fun x=>⟨[(0,.one (.rf 0 0 [] 7 0 l.length)),(3,.bp 3 0),(5,.one (.rf 57 0 [] 7 0 x.2.1.length)),(6,.one (.pv (.bool x.2.2))),(7,.one (.pv (.int .i64 x.1)))],[(3,[.pv (.string r.Key),.pv (.int .i64 r.Old.Tag),.ro 1 (r.Old.B.map uR),.pv (.int .i64 r.New.Tag),.ro 1 (r.New.B.map uR),.pv (.int .i64 r.Has),.pv (.bool r.Aside)])],[(0,[Tr.sl true 7 () (leftRows r l x.1)]),(1,r.enc false),(57,[slT true 7 (RowV.enc true) x.2.1])]⟩) (fun x=>x.1≤l.length∧x.2=(l.take x.1).foldl (insR r) ([],false)) (fun x=>l.length - x.1) (0,[],false) ?_ ⟨Nat.zero_le _,rfl⟩ ?_
 ·simp -implicitDefEqProofs (maxSteps:=1000000) only [go_sem,left_zero]
  try rfl
 ·rintro ⟨i,o,p⟩ ⟨hi,he⟩
  simp only at hi he
  have hol:o.length≤2 * l.length:=by
   have:=insR_le r (l.take i) ([],false)
   rw [← he] at this
   simp only [List.length_nil,List.length_take] at this
   omega
  have ea:=app1Rw o r
  have et:List.take (o.length + 1) (List.map (RowV.enc true) (o++[r]))=List.map (RowV.enc true) (o++[r]):=List.take_of_length_le (by simp)
  cases q:decide ((i:Int) < (l.length:Int))
  ·have k0:i=l.length:=by simp only [decide_eq_false_iff_not] at q; omega
   rw [k0,List.take_length] at he
   subst k0
   cases p
   ·have e:insRow l r=o++[r]:=by rw [insRow,← he]; rfl
    refine G1 q ?_
    exact D3 (c_s_l9Copy r hr) e ea et
   ·have e:insRow l r=o:=by rw [insRow,← he]; rfl
    exact F2 q e
  ·have k1:i < l.length:=by simp only [decide_eq_true_eq] at q; omega
   have es:=insR_step (r:=r) k1
   rw [← he] at es
   have eg:=left_get (r:=r) k1
   have ed:(leftRows r l i).getD i []=l[i].enc true:=by rw [List.getD_eq_getElem?_getD,eg]; rfl
   have el:=left_len r l i
   have ex:=left_set (r:=r) k1
   have e1:∀ X:List T,((leftRows r l i).set i X)[i]?=some X:=fun X=>List.getElem?_set_self (by rw [el]; exact k1)
   have e2:∀ X:List T,((leftRows r l i).set i X).getD i []=X:=fun X=>by rw [List.getD_eq_getElem?_getD,e1]; rfl
   have eb:=app1Rw o l[i]
   have ec:=app1Rw (o++[r]) l[i]
   cases g2:decide (l[i].Key=r.Key) <;> cases g1:Op.bytesLess l[i].Key.toList r.Key.toList <;> cases p
   all_goals
    simp only [insR,g1,g2,Bool.not_true,Bool.not_false,Bool.and_true,Bool.and_false,Bool.or_true,Bool.or_false,Bool.true_or,Bool.false_or,Bool.true_and,Bool.false_and,if_true,if_false,Bool.false_eq_true] at es
    simp only [leftR,g2,if_true,if_false,Bool.false_eq_true] at ex
    try simp -implicitDefEqProofs (maxSteps:=1000000) only [go_sem,q,g1,g2,eg,ed,el,ex,e1,e2,List.set_set,List.length_set,take_rows,take_all,ea,eb,ec,et]
    repeat refine ⟨sc,?_⟩
   all_goals try (refine .of (c_s_l9Copy r hr) ?_; try simp -implicitDefEqProofs (maxSteps:=1000000) only [go_sem,g1,g2,eg,ed,el,ex,e1,e2,List.set_set,List.length_set,take_rows,take_all,ea,eb,ec,et])
   all_goals
    repeat refine ⟨sc,?_⟩
   all_goals
    refine ⟨(i + 1,(l.take (i + 1)).foldl (insR r) ([],false)),?_,⟨k1,rfl⟩,by simp only; omega⟩
    rw [← es,IntWalk.i64_in _ (by omega)]
    try simp only [List.length_append]
    try rw [left_same k1 g2]
    rfl
def x_s_l9Any:FnX:=⟨41,[.cell 2 (some 7)],
  .q [.op 2 (.alloc [.e,.i 0,.nils 1,.i 0,.nils 1,.i 0,.F])]
 (.q [.m 4 0,.op 5 (.call 353 [5] [(.t 4)]),.op 3 (.alloc [.e,.i 0,.nils 1,.i 0,.nils 1,.i 0,.F]),.s 100001 7 3 5]
 (.seq (.q [.m 6 0,.op 7 (.call 96 [5,0] [(.t 6),(.i 14)])]
 (.block 0 (.q [.B 9 .eql 7 0,.m 8 9]
 (.cond 8 (.reg [.m 10 0,.op 11 (.call 95 [5] [(.t 10)]),.f 12 3 0,.s 100002 1 12 11]) (.q [.B 14 .eql 7 1,.m 13 14]
 (.cond 13 (.reg [.m 15 0,.op 16 (.bslice 1 [(.i 0),(.i 1),(.i 2),(.i 3),(.i 4),(.i (-1))]),.op 17 (.call 70 [5,1] [(.t 15),(.t 16)]),.f 18 3 5,.s 100003 1 18 17]) (.q [.B 20 .eql 7 2,.m 19 20]
 (.cond 19 (.reg [.f 21 3 6,.l 22 21,.N 23 22,.f 24 3 6,.s 100004 1 24 23]) (.q [.B 26 .eql 7 3,.m 25 26]
 (.cond 25 (.reg [.m 27 0,.op 28 (.call 354 [5] [(.t 27)]),.f 29 3 1,.s 100005 2 29 28]) (.q [.B 31 .eql 7 4,.m 30 31]
 (.cond 30 (.reg [.m 32 0,.op 33 (.call 354 [5] [(.t 32)]),.f 34 3 3,.s 100006 2 34 33]) (.q [.B 36 .eql 7 5,.m 35 36]
 (.c 35 (.reg [.op 37 (.bslice 1 [(.k (.one (.pv (.int .u8 129))))]),.f 38 3 1,.f 39 38 1,.s 100007 1 39 37])))))))))))))))
 (.q [.L 40 7 3,.s 100008 7 2 40]
 .ret)))⟩
theorem r_s_l9Any {Te:TE} (c_s_l9Draw:C_s_l9Draw Te) (c_s_l1Below:C_s_l1Below Te) (c_s_l1Text:C_s_l1Text Te) (c_s_l1Int:C_s_l1Int Te) (c_s_l8Any:C_s_l8Any Te):∀ (c:CurV) (hc:c.ok),∃ r0,(∃ (r:RowV) (d:CurV),(r.In (2 ^ 20)∧d.ok)∧r0=(⟨[.agg (r.enc true)],[d.enc]⟩:Res))∧RunFn Te x_s_l9Any [.ptr c.enc] r0:=by
 intro c hc
 refine some_of (Nat.le_of_ble_eq_true rfl) (by rfl) ?_
 have e:∀ j k:Int,k≠j→(k==j)=false:=fun j k h=>by simpa using h
 simp -implicitDefEqProofs (maxSteps:=1000000) only [x_s_l9Any,go_sem]
 repeat refine ⟨sc,?_⟩
 try exact sf
 obtain ⟨x,d,⟨⟨h0,h1,h2⟩,hd⟩,ht⟩:=c_s_l9Draw c hc
 refine C0 (ht) ?_
 obtain ⟨k,d,⟨_,hd⟩,ht⟩:=c_s_l1Below d 14 hd
 by_cases q0:k=0
 ·subst q0
  obtain ⟨r,d,⟨hr,hd⟩,ht1⟩:=c_s_l1Text d hd
  refine C0 (ht) ?_
  refine C0 (ht1) ?_
  exact ⟨⟨r,x.Old,x.New,x.Has,x.Aside⟩,d,⟨⟨by show r.size≤_; omega,h1,h2⟩,hd⟩,rfl⟩
 by_cases q1:k=1
 ·subst q1
  obtain ⟨r,d,⟨_,hd⟩,ht1⟩:=c_s_l1Int d [0,1,2,3,4,-1] hd (by decide)
  refine C0 (ht) ?_
  refine C0 (ht1) ?_
  exact ⟨⟨x.Key,x.Old,x.New,r,x.Aside⟩,d,⟨⟨h0,h1,h2⟩,hd⟩,rfl⟩
 by_cases q2:k=2
 ·subst q2
  refine C0 (ht) ?_
  exact ⟨⟨x.Key,x.Old,x.New,x.Has,!x.Aside⟩,d,⟨⟨h0,h1,h2⟩,hd⟩,rfl⟩
 by_cases q3:k=3
 ·subst q3
  obtain ⟨y,d,⟨hy,hd⟩,ht1⟩:=c_s_l8Any d hd
  refine C0 (ht) ?_
  refine C0 (ht1) ?_
  exact ⟨⟨x.Key,y,x.New,x.Has,x.Aside⟩,d,⟨⟨h0,hy,h2⟩,hd⟩,rfl⟩
 by_cases q4:k=4
 ·subst q4
  obtain ⟨y,d,⟨hy,hd⟩,ht1⟩:=c_s_l8Any d hd
  refine C0 (ht) ?_
  refine C0 (ht1) ?_
  exact ⟨⟨x.Key,x.Old,y,x.Has,x.Aside⟩,d,⟨⟨h0,h1,hy⟩,hd⟩,rfl⟩
 by_cases q5:k=5
 ·subst q5
  refine C0 (ht) ?_
  exact ⟨⟨x.Key,⟨x.Old.Tag,[129]⟩,x.New,x.Has,x.Aside⟩,d,⟨⟨h0,by show 1≤2 ^ 20; decide,h2⟩,hd⟩,rfl⟩
 refine .of (ht) ?_
 try simp -implicitDefEqProofs (maxSteps:=1000000) only [go_sem,e 0 k q0,e 1 k q1,e 2 k q2,e 3 k q3,e 4 k q4,e 5 k q5]
 repeat refine ⟨sc,?_⟩
 try exact sf
 exact ⟨x,d,⟨⟨h0,h1,h2⟩,hd⟩,rfl⟩
def x_s_l11Draw:FnX:=⟨44,[.cell 2 (some 13)],
  .q [.op 2 (.alloc [.i 0,.e,.i 0,.nils 1,.i 0,.nils 1,.i 0,.F,.e,.i 0,.i 0,.i 0,.i 0])]
 (.q [.m 4 0,.op 5 (.call 96 [5,0] [(.t 4),(.i 4)]),.op 6 (.bin .add (.i 1) (.t 5)),.op 7 (.build [.i 0,.e,.i 0,.nils 1,.i 0,.nils 1,.i 0,.F,.e,.i 0,.i 0,.i 0,.i 0] [(0,1,(.t 6))]),.op 3 (.alloc [.i 0,.e,.i 0,.nils 1,.i 0,.nils 1,.i 0,.F,.e,.i 0,.i 0,.i 0,.i 0]),.s 100001 13 3 7]
 (.seq (.q [.f 8 3 0,.l 9 8]
 (.block 0 (.q [.B 11 .eql 9 1,.m 10 11]
 (.cond 10 (.reg [.m 12 0,.op 13 (.call 353 [5] [(.t 12)]),.f 14 3 1,.s 100002 7 14 13]) (.q [.B 16 .eql 9 2,.m 15 16]
 (.cond 15 (.reg [.m 17 0,.op 18 (.call 93 [5] [(.t 17)]),.f 19 3 8,.s 100003 1 19 18]) (.q [.B 21 .eql 9 3,.m 20 21]
 (.c 20 (.reg [.m 22 0,.op 23 (.call 96 [5,0] [(.t 22),(.i 8)]),.f 24 3 9,.s 100004 1 24 23])))))))))
 (.seq (.q [.f 25 3 0,.l 26 25,.B 27 .eql 26 4,.m 28 27,.z 28 (.m 29 0),.z 28 (.op 30 (.call 94 [5,0] [(.t 29),(.i 2)])),.r 31 28 30]
 (.c 31 (.q [.m 32 0,.op 33 (.call 96 [5,0] [(.t 32),(.i 3)]),.op 34 (.bin .add (.i 1) (.t 33)),.f 35 3 10,.s 100005 1 35 34]
 (.q [.m 36 0,.op 37 (.bslice 1 [(.i 0),(.i 1),(.i 2),(.i 65535)]),.op 38 (.call 70 [5,1] [(.t 36),(.t 37)]),.f 39 3 11,.s 100006 1 39 38]
 (.reg [.m 40 0,.op 41 (.call 96 [5,0] [(.t 40),(.i 7)]),.f 42 3 12,.s 100007 1 42 41])))))
 (.q [.L 43 13 3,.s 100008 13 2 43]
 .ret))))⟩
theorem r_s_l11Draw {Te:TE} (c_s_l1Below:C_s_l1Below Te) (c_s_l9Draw:C_s_l9Draw Te) (c_s_l1Name:C_s_l1Name Te) (c_s_l1Once:C_s_l1Once Te) (c_s_l1Int:C_s_l1Int Te):∀ (c:CurV) (hc:c.ok),∃ r0,(∃ (r:RecV) (d:CurV),(r.In (2 ^ 20)∧d.ok)∧r0=(⟨[.agg (r.enc true)],[d.enc]⟩:Res))∧RunFn Te x_s_l11Draw [.ptr c.enc] r0:=by
 intro c hc
 refine some_of (Nat.le_of_ble_eq_true rfl) (by rfl) ?_
 have hz:=RowV.zero_in (2 ^ 20)
 have w1:IntKind.i64.wrap (1 + 0)=1:=rfl
 have w2:IntKind.i64.wrap (1 + 1)=2:=rfl
 have w3:IntKind.i64.wrap (1 + 2)=3:=rfl
 have w4:IntKind.i64.wrap (1 + 3)=4:=rfl
 simp -implicitDefEqProofs (maxSteps:=1000000) only [x_s_l11Draw,go_sem]
 repeat refine ⟨sc,?_⟩
 try exact sf
 obtain ⟨k,d,⟨⟨hk0,hk1,_⟩,hd⟩,ht⟩:=c_s_l1Below c 4 hc
 have hk4:=hk1 (by decide)
 rcases (show k=0∨k=1∨k=2∨k=3 by omega) with rfl | rfl | rfl | rfl
 ·obtain ⟨R,d,⟨hR,hd⟩,ht1⟩:=c_s_l9Draw d hd
  obtain ⟨b,d,hd,ht2⟩:=c_s_l1Once d 2 hd
  refine C1 (ht) w1 ?_
  refine C0 (ht1) ?_
  cases b
  ·refine C0 (ht2) ?_
   exact ⟨⟨1,R,⟨#[]⟩,0,0,0,0⟩,d,⟨⟨hR,Nat.zero_le _⟩,hd⟩,rfl⟩
  ·obtain ⟨who,d,⟨_,hd⟩,ht3⟩:=c_s_l1Below d 3 hd
   obtain ⟨seq,d,⟨_,hd⟩,ht4⟩:=c_s_l1Int d [0,1,2,65535] hd (by decide)
   obtain ⟨code,d,⟨_,hd⟩,ht5⟩:=c_s_l1Below d 7 hd
   refine C0 (ht2) ?_
   refine C0 (ht3) ?_
   refine C0 (ht4) ?_
   refine C0 (ht5) ?_
   exact ⟨⟨1,R,⟨#[]⟩,0,IntKind.i64.wrap (1 + who),seq,code⟩,d,⟨⟨hR,Nat.zero_le _⟩,hd⟩,rfl⟩
 ·obtain ⟨key,d,⟨hkey,hd⟩,ht1⟩:=c_s_l1Name d hd
  have hk:key.size≤2 ^ 20:=by omega
  obtain ⟨b,d,hd,ht2⟩:=c_s_l1Once d 2 hd
  refine C1 (ht) w2 ?_
  refine C0 (ht1) ?_
  cases b
  ·refine C0 (ht2) ?_
   exact ⟨⟨2,RowV.zero,key,0,0,0,0⟩,d,⟨⟨hz,hk⟩,hd⟩,rfl⟩
  ·obtain ⟨who,d,⟨_,hd⟩,ht3⟩:=c_s_l1Below d 3 hd
   obtain ⟨seq,d,⟨_,hd⟩,ht4⟩:=c_s_l1Int d [0,1,2,65535] hd (by decide)
   obtain ⟨code,d,⟨_,hd⟩,ht5⟩:=c_s_l1Below d 7 hd
   refine C0 (ht2) ?_
   refine C0 (ht3) ?_
   refine C0 (ht4) ?_
   refine C0 (ht5) ?_
   exact ⟨⟨2,RowV.zero,key,0,IntKind.i64.wrap (1 + who),seq,code⟩,d,⟨⟨hz,hk⟩,hd⟩,rfl⟩
 ·obtain ⟨n,d,⟨_,hd⟩,ht1⟩:=c_s_l1Below d 8 hd
  obtain ⟨b,d,hd,ht2⟩:=c_s_l1Once d 2 hd
  refine C1 (ht) w3 ?_
  refine C0 (ht1) ?_
  cases b
  ·refine C0 (ht2) ?_
   exact ⟨⟨3,RowV.zero,⟨#[]⟩,n,0,0,0⟩,d,⟨⟨hz,Nat.zero_le _⟩,hd⟩,rfl⟩
  ·obtain ⟨who,d,⟨_,hd⟩,ht3⟩:=c_s_l1Below d 3 hd
   obtain ⟨seq,d,⟨_,hd⟩,ht4⟩:=c_s_l1Int d [0,1,2,65535] hd (by decide)
   obtain ⟨code,d,⟨_,hd⟩,ht5⟩:=c_s_l1Below d 7 hd
   refine C0 (ht2) ?_
   refine C0 (ht3) ?_
   refine C0 (ht4) ?_
   refine C0 (ht5) ?_
   exact ⟨⟨3,RowV.zero,⟨#[]⟩,n,IntKind.i64.wrap (1 + who),seq,code⟩,d,⟨⟨hz,Nat.zero_le _⟩,hd⟩,rfl⟩
 ·obtain ⟨who,d,⟨_,hd⟩,ht3⟩:=c_s_l1Below d 3 hd
  obtain ⟨seq,d,⟨_,hd⟩,ht4⟩:=c_s_l1Int d [0,1,2,65535] hd (by decide)
  obtain ⟨code,d,⟨_,hd⟩,ht5⟩:=c_s_l1Below d 7 hd
  refine C1 (ht) w4 ?_
  refine C0 (ht3) ?_
  refine C0 (ht4) ?_
  refine C0 (ht5) ?_
  exact ⟨⟨4,RowV.zero,⟨#[]⟩,0,IntKind.i64.wrap (1 + who),seq,code⟩,d,⟨⟨hz,Nat.zero_le _⟩,hd⟩,rfl⟩
def x_i_within:FnX:=⟨15,[.tmp 6],
  .q [.F 6]
 (.q [.m 7 0,.m 8 1,.b 9 .geq 7 8,.m 10 9,.y 10 (.m 11 0),.y 10 (.m 12 2),.y 10 (.b 13 .leq 11 12),.a 14 10 13,.m 6 14]
 .ret)⟩
theorem r_i_within {Te:TE}:C_i_within (RF Te x_i_within):=by
 intro n a b
 refine run0 ?_
 simp -implicitDefEqProofs (maxSteps:=1000000) only [x_i_within,go_sem]
 refine bif_cases (fun h=>?_) (fun h=>?_) <;> simp -implicitDefEqProofs (maxSteps:=1000000) only [h,go_sem,win]
def x_s_l1In:FnX:=⟨15,[.tmp 6],
  .q [.F 6]
 (.q [.m 7 0,.m 8 1,.b 9 .geq 7 8,.m 10 9,.y 10 (.m 11 0),.y 10 (.m 12 2),.y 10 (.b 13 .leq 11 12),.a 14 10 13,.m 6 14]
 .ret)⟩
theorem r_s_l1In {Te:TE}:C_s_l1In (RF Te x_s_l1In):=by
 intro n a b
 refine run0 ?_
 simp -implicitDefEqProofs (maxSteps:=1000000) only [x_s_l1In,go_sem]
 refine bif_cases (fun h=>?_) (fun h=>?_) <;> simp -implicitDefEqProofs (maxSteps:=1000000) only [h,go_sem,win]
def x_i_isWord:FnX:=⟨5,[.tmp 2],
  .q [.F 2]
 (.q [.m 3 0,.op 4 (.call 90 [0,0,0] [(.t 3),(.i 0),(.i 65535)]),.m 2 4]
 .ret)⟩
theorem r_i_isWord {Te:TE} (c_i_within:C_i_within Te):C_i_isWord (RF Te x_i_isWord):=by
 intro n
 refine run0 ?_
 simp -implicitDefEqProofs (maxSteps:=1000000) only [x_i_isWord,go_sem]
 exact D0 (c_i_within _ _ _)
def x_s_l1Word:FnX:=⟨5,[.tmp 2],
  .q [.F 2]
 (.q [.m 3 0,.op 4 (.call 120 [0,0,0] [(.t 3),(.i 0),(.i 65535)]),.m 2 4]
 .ret)⟩
theorem r_s_l1Word {Te:TE} (c_s_l1In:C_s_l1In Te):C_s_l1Word (RF Te x_s_l1Word):=by
 intro n
 refine run0 ?_
 simp -implicitDefEqProofs (maxSteps:=1000000) only [x_s_l1Word,go_sem]
 exact D0 (c_s_l1In _ _ _)
def x_s_l3Koi:FnX:=⟨28,[.tmp 2],
  .q [.i 2 0]
 (.q [.op 4 (.bslice 1 [(.i 1102),(.i 1072),(.i 1073),(.i 1094),(.i 1076),(.i 1077),(.i 1092),(.i 1075),(.i 1093),(.i 1080),(.i 1081),(.i 1082),(.i 1083),(.i 1084),(.i 1085),(.i 1086),(.i 1087),(.i 1103),(.i 1088),(.i 1089),(.i 1090),(.i 1091),(.i 1078),(.i 1074),(.i 1100),(.i 1099),(.i 1079),(.i 1096),(.i 1101),(.i 1097),(.i 1095),(.i 1098)]),.m 3 4]
 (.seq (.block 0 (.q [.m 6 0,.B 7 .geq 6 224,.m 5 7]
 (.cond 5 (.q [.m 8 3,.m 9 0,.B 10 .sub 9 224,.x 11 1 8 10,.l 12 11,.B 13 .sub 12 32,.m 2 13]
 .ret) (.q [.m 15 0,.B 16 .geq 15 192,.m 14 16]
 (.cond 14 (.q [.m 17 3,.m 18 0,.B 19 .sub 18 192,.x 20 1 17 19,.l 21 20,.m 2 21]
 .ret) (.q [.m 23 0,.B 24 .eql 23 163,.m 22 24]
 (.cond 22 (.q [.i 2 1105]
 .ret) (.q [.m 26 0,.B 27 .eql 26 179,.m 25 27]
 (.c 25 (.q [.i 2 1025]
 .ret))))))))))
 (.q [.i 2 (-1)]
 .ret)))⟩
theorem r_s_l3Koi {Te:TE}:C_s_l3Koi (RF Te x_s_l3Koi):=by
 intro b hb
 refine run0 ?_
 cases g1:decide (b≥224)
 ·cases g2:decide (b≥192)
  ·cases g3:(b==163)
   ·cases g4:(b==179)
    ·simp -implicitDefEqProofs (maxSteps:=1000000) only [x_s_l3Koi,go_sem,koi,g1,g2,g3,g4]
     repeat refine ⟨sc,?_⟩
     try exact sf
    ·simp -implicitDefEqProofs (maxSteps:=1000000) only [x_s_l3Koi,go_sem,koi,g1,g2,g3,g4]
     repeat refine ⟨sc,?_⟩
     try exact sf
   ·simp -implicitDefEqProofs (maxSteps:=1000000) only [x_s_l3Koi,go_sem,koi,g1,g2,g3]
    repeat refine ⟨sc,?_⟩
    try exact sf
  ·simp only [decide_eq_true_eq] at g2
   have e:IntKind.i64.wrap (b - 192)=b - 192:=IntWalk.i64_in _ (by omega)
   simp only [decide_eq_false_iff_not] at g1
   have hk:(b - 192).toNat < 32:=by omega
   have q1:=decide_eq_false g1
   have q2:=decide_eq_true g2
   simp -implicitDefEqProofs (maxSteps:=1000000) only [x_s_l3Koi,go_sem,koi,q1,q2,e,Nat.mul_one,List.getD_eq_getElem?_getD]
   repeat refine ⟨sc,?_⟩
   try exact sf
   try simp -implicitDefEqProofs (maxSteps:=1000000) only [go_sem,koi_row hk,q1,q2]
   repeat refine ⟨sc,?_⟩
   try exact sf
   try simp only [List.getD_eq_getElem?_getD]
 ·simp only [decide_eq_true_eq] at g1
  have e:IntKind.i64.wrap (b - 224)=b - 224:=IntWalk.i64_in _ (by omega)
  have hk:(b - 224).toNat < 32:=by omega
  have q1:=decide_eq_true g1
  have hv:=koi_in ⟨(b - 224).toNat,hk⟩
  have e2:IntKind.i64.wrap (koiL.getD (b - 224).toNat 0 - 32)=koiL.getD (b - 224).toNat 0 - 32:=IntWalk.i64_in _ (by simp only at hv; omega)
  simp -implicitDefEqProofs (maxSteps:=1000000) only [x_s_l3Koi,go_sem,koi,q1,e,Nat.mul_one,List.getD_eq_getElem?_getD]
  repeat refine ⟨sc,?_⟩
  try exact sf
  try simp -implicitDefEqProofs (maxSteps:=1000000) only [go_sem,koi_row hk,q1,e2]
  repeat refine ⟨sc,?_⟩
  try exact sf
  try simp only [List.getD_eq_getElem?_getD]
def x_i_winSign:FnX:=⟨12,[.tmp 2],
  .q [.i 2 0]
 (.q [.op 4 (.build [.i 0,.i 0,.i 0,.i 0,.i 0,.i 0,.i 0,.i 0,.i 0,.i 0,.i 0,.i 0,.i 0,.i 0,.i 0,.i 0,.i 0,.i 0,.i 0,.i 0,.i 0,.i 0,.i 0,.i 0,.i 0,.i 0,.i 0,.i 0,.i 0,.i 0,.i 0,.i 0] [(0,1,(.i 8364)),(1,1,(.i 0)),(2,1,(.i 8218)),(3,1,(.i 402)),(4,1,(.i 8222)),(5,1,(.i 8230)),(6,1,(.i 8224)),(7,1,(.i 8225)),(8,1,(.i 710)),(9,1,(.i 8240)),(10,1,(.i 352)),(11,1,(.i 8249)),(12,1,(.i 338)),(13,1,(.i 0)),(14,1,(.i 381)),(15,1,(.i 0)),(16,1,(.i 0)),(17,1,(.i 8216)),(18,1,(.i 8217)),(19,1,(.i 8220)),(20,1,(.i 8221)),(21,1,(.i 8226)),(22,1,(.i 8211)),(23,1,(.i 8212)),(24,1,(.i 732)),(25,1,(.i 8482)),(26,1,(.i 353)),(27,1,(.i 8250)),(28,1,(.i 339)),(29,1,(.i 0)),(30,1,(.i 382)),(31,1,(.i 376))]),.op 3 (.alloc [.i 0,.i 0,.i 0,.i 0,.i 0,.i 0,.i 0,.i 0,.i 0,.i 0,.i 0,.i 0,.i 0,.i 0,.i 0,.i 0,.i 0,.i 0,.i 0,.i 0,.i 0,.i 0,.i 0,.i 0,.i 0,.i 0,.i 0,.i 0,.i 0,.i 0,.i 0,.i 0]),.s 100001 32 3 4]
 (.seq (.q [.m 5 0,.B 6 .geq 5 160]
 (.c 6 (.q [.m 7 0,.m 2 7]
 .ret)))
 (.q [.m 8 0,.B 9 .sub 8 128,.op 10 (.aaddr 32 1 (.t 3) (.t 9)),.l 11 10,.m 2 11]
 .ret)))⟩
theorem r_i_winSign {Te:TE}:C_i_winSign (RF Te x_i_winSign):=by
 intro b hb
 refine run0 ?_
 cases g1:decide (b≥160)
 ·have e:IntKind.i64.wrap (b - 128)=b - 128:=IntWalk.i64_in _ (by omega)
  have hk:(b - 128).toNat < 32:=by simp only [decide_eq_false_iff_not] at g1; omega
  simp -implicitDefEqProofs (maxSteps:=1000000) only [x_i_winSign,go_sem,winB,g1,e,Nat.mul_one]
  repeat refine ⟨sc,?_⟩
  try exact sf
  try simp -implicitDefEqProofs (maxSteps:=1000000) only [go_sem,win_cel hk,g1]
  repeat refine ⟨sc,?_⟩
  try exact sf
 ·simp -implicitDefEqProofs (maxSteps:=1000000) only [x_i_winSign,go_sem,winB,g1]
  repeat refine ⟨sc,?_⟩
  try exact sf
def x_s_l3Win:FnX:=⟨13,[.tmp 2],
  .q [.i 2 0]
 (.q [.op 4 (.bslice 1 [(.i 8364),(.i (-1)),(.i 8218),(.i 402),(.i 8222),(.i 8230),(.i 8224),(.i 8225),(.i 710),(.i 8240),(.i 352),(.i 8249),(.i 338),(.i (-1)),(.i 381),(.i (-1)),(.i (-1)),(.i 8216),(.i 8217),(.i 8220),(.i 8221),(.i 8226),(.i 8211),(.i 8212),(.i 732),(.i 8482),(.i 353),(.i 8250),(.i 339),(.i (-1)),(.i 382),(.i 376)]),.m 3 4]
 (.seq (.q [.m 5 0,.B 6 .geq 5 160]
 (.c 6 (.q [.m 7 0,.m 2 7]
 .ret)))
 (.q [.m 8 3,.m 9 0,.B 10 .sub 9 128,.x 11 1 8 10,.l 12 11,.m 2 12]
 .ret)))⟩
theorem r_s_l3Win {Te:TE}:C_s_l3Win (RF Te x_s_l3Win):=by
 intro b hb
 refine run0 ?_
 cases g1:decide (b≥160)
 ·have e:IntKind.i64.wrap (b - 128)=b - 128:=IntWalk.i64_in _ (by omega)
  have hk:(b - 128).toNat < 32:=by simp only [decide_eq_false_iff_not] at g1; omega
  simp -implicitDefEqProofs (maxSteps:=1000000) only [x_s_l3Win,go_sem,winB,g1,e,Nat.mul_one,List.getD_eq_getElem?_getD]
  repeat refine ⟨sc,?_⟩
  try exact sf
  try simp -implicitDefEqProofs (maxSteps:=1000000) only [go_sem,win_row hk,g1]
  repeat refine ⟨sc,?_⟩
  try exact sf
  try simp only [List.getD_eq_getElem?_getD]
 ·simp -implicitDefEqProofs (maxSteps:=1000000) only [x_s_l3Win,go_sem,winB,g1]
  repeat refine ⟨sc,?_⟩
  try exact sf
def x_s_DrawNodeLoad:FnX:=⟨32,[.cell 2 (some 10),.tmp 3,.tmp 4],
  .q [.op 2 (.alloc [.nils 1,.nils 2,.i 0,.F,.nils 7,.i 0,.nils 3,.i 0,.i 0,.i 0]),.op 3 (.mv (.k (.one (.pv (.string ⟨#[]⟩))))),.op 4 (.mv (.k (.one (.nils 1))))]
 (.q [.m 8 0,.c 9 58 [8],.m 5 9]
 (.q [.m 10 5,.op 11 (.call 92 [5,0] [(.t 10),(.i 3)]),.op 6 (.alloc [.nils 1,.nils 2,.i 0,.F,.nils 7,.i 0,.nils 3,.i 0,.i 0,.i 0]),.s 100001 10 6 11]
 (.q [.m 12 5,.op 13 (.call 93 [5] [(.t 12)]),.m 7 13]
 (.seq (.q [.m 14 5,.op 15 (.call 94 [5,0] [(.t 14),(.i 8)])]
 (.c 15 (.reg [.m 16 5,.op 17 (.call 95 [5] [(.t 16)]),.m 7 17])))
 (.seq (.q [.m 18 5,.op 19 (.call 94 [5,0] [(.t 18),(.i 10)])]
 (.c 19 (.seq (.draw [.L 20 10 6,.m 21 7,.m 22 5,.op 23 (.call 96 [5,0] [(.t 22),(.i 2)]),.op 24 (.bin .add (.i 20) (.t 23)),.op 25 (.mks 1 1 [.pv (.int .u8 0)] (.t 24)),.s 100002 10 2 20,.m 3 21,.m 4 25] [[],[],[],[2],[3],[4,4],[0,3,0],[1,6,0,1,6],[5,7,0,1,2,3,4,5,6,7]])
 .ret)))
 (.seq (.draw [.L 26 10 6,.m 27 7,.m 28 5,.f 29 6 9,.l 30 29,.op 31 (.call 97 [5,0] [(.t 28),(.t 30)]),.s 100003 10 2 26,.m 3 27,.m 4 31] [[],[],[],[],[3],[2,4],[0,5,0],[1,6,0,1,6],[5,7,0,1,2,3,4,5,6,7]])
 .ret))))))⟩
theorem r_s_DrawNodeLoad {Te:TE} (c_s_l1New:C_s_l1New Te) (c_s_l15Any:C_s_l15Any Te) (c_s_l1Name:C_s_l1Name Te) (c_s_l1Once:C_s_l1Once Te) (c_s_l1Text:C_s_l1Text Te) (c_s_l1Below:C_s_l1Below Te) (c_s_l5Bytes:C_s_l5Bytes Te):∀ (l:List UInt8) (hl:l.length≤2 ^ 31),∃ r0,(∃ (n:NodeV) (key:ByteArray) (b:List UInt8),(n.In (2 ^ 20)∧key.size≤2 ^ 20∧b.length≤2 ^ 20)∧r0=(⟨[.agg (n.enc true),.one (sT key),.one (slT true 1 uR b)],[[slT false 1 uR l]]⟩:Res))∧RunFn Te x_s_DrawNodeLoad [.one (slT false 1 uR l)] r0:=by
 intro l hl
 refine some_of (Nat.le_of_ble_eq_true rfl) (by rfl) ?_
 simp -implicitDefEqProofs (maxSteps:=1000000) only [x_s_DrawNodeLoad,go_sem]
 repeat refine ⟨sc,?_⟩
 try exact sf
 obtain ⟨c,hc,ht⟩:=c_s_l1New l hl
 refine C0 (ht) ?_
 obtain ⟨n,d,⟨⟨hn,_⟩,hd⟩,ht⟩:=c_s_l15Any c 3 hc (by decide)
 refine C0 (ht) ?_
 obtain ⟨key,d,⟨hk,hd⟩,ht⟩:=c_s_l1Name d hd
 refine C0 (ht) ?_
 obtain ⟨p,d,hd,ht⟩:=c_s_l1Once d 8 hd
 cases p
 ·obtain ⟨q,d,hd,ht1⟩:=c_s_l1Once d 10 hd
  cases q
  ·obtain ⟨b,d,⟨hb,hd⟩,ht2⟩:=c_s_l5Bytes d n.Cs hd
   refine C0 (ht) ?_
   refine C0 (ht1) ?_
   refine C0 (ht2) ?_
   exact ⟨n,key,b,⟨hn,by omega,by omega⟩,rfl⟩
  ·obtain ⟨u,d,⟨⟨hu0,hu1,_⟩,hd⟩,ht2⟩:=c_s_l1Below d 2 hd
   have hu2:=hu1 (by decide)
   have wu:IntKind.i64.wrap (20 + u)=20 + u:=IntWalk.i64_in _ (by omega)
   refine C0 (ht) ?_
   refine C0 (ht1) ?_
   refine .of (ht2) ?_
   try simp -implicitDefEqProofs (maxSteps:=1000000) only [go_sem,wu,zero_rows,take_zeros]
   repeat refine ⟨sc,?_⟩
   try exact sf
   exact ⟨n,key,List.replicate (20 + u).toNat 0,⟨hn,by omega,by rw [List.length_replicate]; omega⟩,rfl⟩
 ·obtain ⟨key2,d,⟨hk2,hd⟩,ht0⟩:=c_s_l1Text d hd
  obtain ⟨q,d,hd,ht1⟩:=c_s_l1Once d 10 hd
  cases q
  ·obtain ⟨b,d,⟨hb,hd⟩,ht2⟩:=c_s_l5Bytes d n.Cs hd
   refine C0 (ht) ?_
   refine C0 (ht0) ?_
   refine C0 (ht1) ?_
   refine C0 (ht2) ?_
   exact ⟨n,key2,b,⟨hn,by omega,by omega⟩,rfl⟩
  ·obtain ⟨u,d,⟨⟨hu0,hu1,_⟩,hd⟩,ht2⟩:=c_s_l1Below d 2 hd
   have hu2:=hu1 (by decide)
   have wu:IntKind.i64.wrap (20 + u)=20 + u:=IntWalk.i64_in _ (by omega)
   refine C0 (ht) ?_
   refine C0 (ht0) ?_
   refine C0 (ht1) ?_
   refine .of (ht2) ?_
   try simp -implicitDefEqProofs (maxSteps:=1000000) only [go_sem,wu,zero_rows,take_zeros]
   repeat refine ⟨sc,?_⟩
   try exact sf
   exact ⟨n,key2,List.replicate (20 + u).toNat 0,⟨hn,by omega,by rw [List.length_replicate]; omega⟩,rfl⟩
def x_s_DrawNodeGet:FnX:=⟨11,[.cell 2 (some 10),.tmp 3],
  .q [.op 2 (.alloc [.nils 1,.nils 2,.i 0,.F,.nils 7,.i 0,.nils 3,.i 0,.i 0,.i 0]),.op 3 (.mv (.k (.one (.pv (.string ⟨#[]⟩)))))]
 (.q [.m 5 0,.c 6 58 [5],.m 4 6]
 (.q [.m 7 4,.op 8 (.call 92 [5,0] [(.t 7),(.i 10)]),.m 9 4,.op 10 (.call 93 [5] [(.t 9)]),.s 100001 10 2 8,.m 3 10]
 .ret))⟩
theorem r_s_DrawNodeGet {Te:TE} (c_s_l1New:C_s_l1New Te) (c_s_l15Any:C_s_l15Any Te) (c_s_l1Name:C_s_l1Name Te):∀ (l:List UInt8) (hl:l.length≤2 ^ 31),∃ r0,(∃ (n:NodeV) (key:ByteArray),(n.In (2 ^ 20))∧r0=(⟨[.agg (n.enc true),.one (sT key)],[[slT false 1 uR l]]⟩:Res))∧RunFn Te x_s_DrawNodeGet [.one (slT false 1 uR l)] r0:=by
 intro l hl
 refine some_of (Nat.le_of_ble_eq_true rfl) (by rfl) ?_
 simp -implicitDefEqProofs (maxSteps:=1000000) only [x_s_DrawNodeGet,go_sem]
 repeat refine ⟨sc,?_⟩
 try exact sf
 obtain ⟨c,hc,ht⟩:=c_s_l1New l hl
 refine C0 (ht) ?_
 obtain ⟨n,d,⟨⟨hn,_⟩,hd⟩,ht⟩:=c_s_l15Any c 10 hc (by decide)
 refine C0 (ht) ?_
 obtain ⟨key,d,⟨hk,hd⟩,ht⟩:=c_s_l1Name d hd
 refine C0 (ht) ?_
 exact ⟨n,key,hn,rfl⟩
def x_i_EucSign:FnX:=⟨54,[.tmp 4,.tmp 5,.tmp 6],
  .q [.i 4 0,.i 5 0,.F 6]
 (.seq (.q [.m 9 1,.B 10 .lss 9 0,.m 11 10,.z 11 (.m 12 1),.z 11 (.m 13 0),.z 11 (.n 14 13),.z 11 (.b 15 .geq 12 14),.r 16 11 15]
 (.c 16 (.q [.i 4 0,.i 5 0,.F 6]
 .ret)))
 (.seq (.q [.m 17 0,.m 18 1,.x 19 1 17 18,.l 20 19,.op 21 (.bin .leq (.t 20) (.k (.one (.pv (.int .u8 127)))))]
 (.c 21 (.q [.m 22 0,.m 23 1,.x 24 1 22 23,.l 25 24,.op 26 (.conv (.int .i64) (.t 25)),.m 27 1,.B 28 .add 27 1,.m 4 26,.m 5 28,.T 6]
 .ret)))
 (.seq (.q [.m 29 1,.B 30 .add 29 1,.m 31 0,.n 32 31,.b 33 .eql 30 32]
 (.c 33 (.q [.i 4 0,.i 5 0,.F 6]
 .ret)))
 (.seq (.draw [.m 35 0,.m 36 1,.x 37 1 35 36,.l 38 37,.op 39 (.conv (.int .i64) (.t 38)),.m 40 0,.m 41 1,.B 42 .add 41 1,.x 43 1 40 42,.l 44 43,.op 45 (.conv (.int .i64) (.t 44)),.c 46 324 [39,45],.m 34 46,.e 47 34 0,.e 48 34 1,.m 7 47,.m 8 48] [[],[],[0,1],[2],[3],[],[],[6],[5,7],[8],[9],[4,10],[11],[12],[12],[13,11,0,1,2,3,4,5,6,7,8,9,10,11,12,13],[14,15,0,1,2,3,4,5,6,7,8,9,10,11,12,13,14,15]])
 (.seq (.q [.m 49 8,.N 50 49]
 (.c 50 (.q [.i 4 0,.i 5 0,.F 6]
 .ret)))
 (.q [.m 51 7,.m 52 1,.B 53 .add 52 2,.m 4 51,.m 5 53,.T 6]
 .ret))))))⟩
theorem r_i_EucSign {Te:TE} (c_i_PairSign:C_i_PairSign Te):C_i_EucSign (RF Te x_i_EucSign):=by
 intro b i hb
 refine run0 ?_
 by_cases hi:0≤i∧i < b.length
 ·obtain ⟨k,rfl⟩:∃ k:Nat,i=k:=⟨i.toNat,by omega⟩
  have hk:k < b.length:=by omega
  have eb:b[k].toNat=byteN (b.drop k) 0:=byteN_drop (j:=0) hk
  have hlt:=byteN_lt (b.drop k) 0
  have hlt1:=byteN_lt (b.drop k) 1
  have w3:IntKind.i64.wrap ((byteN (b.drop k) 0:Nat):Int)=(byteN (b.drop k) 0:Nat):=IntWalk.i64_in _ (by omega)
  have w4:IntKind.i64.wrap ((byteN (b.drop k) 1:Nat):Int)=(byteN (b.drop k) 1:Nat):=IntWalk.i64_in _ (by omega)
  have w5:IntKind.i64.wrap ((k:Int) + 1)=(k:Int) + 1:=IntWalk.i64_in _ (by omega)
  have w6:IntKind.i64.wrap ((k:Int) + 2)=(k:Int) + 2:=IntWalk.i64_in _ (by omega)
  have w7:((k:Int) + 1).toNat=k + 1:=by omega
  have q8:decide ((k:Int) < 0)=false:=decide_eq_false (by omega)
  have q9:decide ((k:Int)≥(b.length:Int))=false:=decide_eq_false (by omega)
  cases q:decide (((byteN (b.drop k) 0:Nat):Int)≤127)
  ·have h1:¬ byteN (b.drop ((k:Nat):Int).toNat) 0 < 128:=by rw [Int.toNat_natCast]; simp only [decide_eq_false_iff_not] at q; omega
   cases q2:((k:Int) + 1==(b.length:Int))
   ·have h3:(k:Int) + 1 < b.length:=by
     have:(k:Int) + 1≠(b.length:Int):=by simpa using q2
     omega
    have hk1:k + 1 < b.length:=by omega
    have eb1:b[k + 1].toNat=byteN (b.drop k) 1:=byteN_drop (j:=1) hk1
    simp -implicitDefEqProofs (maxSteps:=1000000) only [x_i_EucSign,go_sem,q,q2,q8,q9,List.getElem?_eq_getElem hk,eb,w3,w5,w7,List.getElem?_eq_getElem hk1,eb1,w4]
    repeat refine ⟨sc,?_⟩
    try exact sf
    refine .of (c_i_PairSign _ _ (by omega)) ?_
    try simp -implicitDefEqProofs (maxSteps:=1000000) only [go_sem]
    repeat refine ⟨sc,?_⟩
    try exact sf
    cases q3:(pairSign ((byteN (b.drop k) 0:Nat):Int) ((byteN (b.drop k) 1:Nat):Int)).2
    ·have e:=euc_bad hi h1 q3
     exact F2 q3 e
    ·have e:=euc_two hi h1 h3 q3
     exact F3 q3 e w6
   ·have e:=euc_end hi h1 (by have:=eq_of_beq q2; omega)
    simp -implicitDefEqProofs (maxSteps:=1000000) only [x_i_EucSign,go_sem,q,q2,q8,q9,List.getElem?_eq_getElem hk,eb,w3,w5,e]
    repeat refine ⟨sc,?_⟩
    try exact sf
  ·have e:=euc_one hi (by rw [Int.toNat_natCast]; simp only [decide_eq_true_eq] at q; omega)
   simp -implicitDefEqProofs (maxSteps:=1000000) only [x_i_EucSign,go_sem,q,q8,q9,List.getElem?_eq_getElem hk,eb,w3,w5,e]
   repeat refine ⟨sc,?_⟩
   try exact sf
 ·have e:=euc_no hi
  cases q8:decide (i < 0)
  ·have q9:decide (i≥(b.length:Int))=true:=by simp only [decide_eq_false_iff_not] at q8; exact decide_eq_true (by omega)
   simp -implicitDefEqProofs (maxSteps:=1000000) only [x_i_EucSign,go_sem,q8,q9,e]
   repeat refine ⟨sc,?_⟩
   try exact sf
  ·simp -implicitDefEqProofs (maxSteps:=1000000) only [x_i_EucSign,go_sem,q8,e]
   repeat refine ⟨sc,?_⟩
   try exact sf
def x_s_EucSign:FnX:=⟨52,[.tmp 4,.tmp 5,.tmp 6],
  .q [.i 4 0,.i 5 0,.F 6]
 (.seq (.q [.m 9 1,.m 10 0,.n 11 10,.B 12 .sub 11 1,.op 13 (.call 120 [0,0,0] [(.t 9),(.i 0),(.t 12)]),.N 14 13]
 (.c 14 (.q [.i 4 0,.i 5 0,.F 6]
 .ret)))
 (.seq (.q [.m 15 0,.m 16 1,.x 17 1 15 16,.l 18 17,.op 19 (.bin .lss (.t 18) (.k (.one (.pv (.int .u8 128)))))]
 (.c 19 (.q [.m 20 0,.m 21 1,.x 22 1 20 21,.l 23 22,.op 24 (.conv (.int .i64) (.t 23)),.m 25 1,.B 26 .add 25 1,.m 4 24,.m 5 26,.T 6]
 .ret)))
 (.seq (.q [.m 27 1,.B 28 .add 27 1,.m 29 0,.n 30 29,.b 31 .geq 28 30]
 (.c 31 (.q [.i 4 0,.i 5 0,.F 6]
 .ret)))
 (.seq (.draw [.m 33 0,.m 34 1,.x 35 1 33 34,.l 36 35,.op 37 (.conv (.int .i64) (.t 36)),.m 38 0,.m 39 1,.B 40 .add 39 1,.x 41 1 38 40,.l 42 41,.op 43 (.conv (.int .i64) (.t 42)),.c 44 330 [37,43],.m 32 44,.e 45 32 0,.e 46 32 1,.m 7 45,.m 8 46] [[],[],[0,1],[2],[3],[],[],[6],[5,7],[8],[9],[4,10],[11],[12],[12],[13,11,0,1,2,3,4,5,6,7,8,9,10,11,12,13],[14,15,0,1,2,3,4,5,6,7,8,9,10,11,12,13,14,15]])
 (.seq (.q [.m 47 8,.N 48 47]
 (.c 48 (.q [.i 4 0,.i 5 0,.F 6]
 .ret)))
 (.q [.m 49 7,.m 50 1,.B 51 .add 50 2,.m 4 49,.m 5 51,.T 6]
 .ret))))))⟩
theorem r_s_EucSign {Te:TE} (c_s_l1In:C_s_l1In Te) (c_s_PairSign:C_s_PairSign Te):C_s_EucSign (RF Te x_s_EucSign):=by
 intro b i hb
 have w1:IntKind.i64.wrap ((b.length:Int) - 1)=(b.length:Int) - 1:=IntWalk.i64_in _ (by omega)
 by_cases hi:0≤i∧i < b.length
 ·obtain ⟨k,rfl⟩:∃ k:Nat,i=k:=⟨i.toNat,by omega⟩
  have hk:k < b.length:=by omega
  have eb:b[k].toNat=byteN (b.drop k) 0:=byteN_drop (j:=0) hk
  have hlt:=byteN_lt (b.drop k) 0
  have hlt1:=byteN_lt (b.drop k) 1
  have w3:IntKind.i64.wrap ((byteN (b.drop k) 0:Nat):Int)=(byteN (b.drop k) 0:Nat):=IntWalk.i64_in _ (by omega)
  have w4:IntKind.i64.wrap ((byteN (b.drop k) 1:Nat):Int)=(byteN (b.drop k) 1:Nat):=IntWalk.i64_in _ (by omega)
  have w5:IntKind.i64.wrap ((k:Int) + 1)=(k:Int) + 1:=IntWalk.i64_in _ (by omega)
  have w6:IntKind.i64.wrap ((k:Int) + 2)=(k:Int) + 2:=IntWalk.i64_in _ (by omega)
  have w7:((k:Int) + 1).toNat=k + 1:=by omega
  have g:win (k:Int) 0 ((b.length:Int) - 1)=true:=by simp only [win,Bool.and_eq_true,decide_eq_true_eq]; omega
  refine X1 x_s_EucSign.eq_1 w1 ?_
  refine C4 (c_s_l1In _ _ _) g (List.getElem?_eq_getElem hk) eb w3 ?_
  cases q:decide (((byteN (b.drop k) 0:Nat):Int) < 128)
  ·have h1:¬ byteN (b.drop ((k:Nat):Int).toNat) 0 < 128:=by rw [Int.toNat_natCast]; simp only [decide_eq_false_iff_not] at q; omega
   cases q2:decide ((k:Int) + 1≥(b.length:Int))
   ·have h3:(k:Int) + 1 < b.length:=by simp only [decide_eq_false_iff_not] at q2; omega
    have hk1:k + 1 < b.length:=by omega
    have eb1:b[k + 1].toNat=byteN (b.drop k) 1:=byteN_drop (j:=1) hk1
    try simp -implicitDefEqProofs (maxSteps:=1000000) only [go_sem,q,q2,List.getElem?_eq_getElem hk,eb,w3,w5,w7,List.getElem?_eq_getElem hk1,eb1,w4]
    repeat refine ⟨sc,?_⟩
    try exact sf
    refine .of (c_s_PairSign _ _ (by omega)) ?_
    try simp -implicitDefEqProofs (maxSteps:=1000000) only [go_sem]
    repeat refine ⟨sc,?_⟩
    try exact sf
    cases q3:(pairSign ((byteN (b.drop k) 0:Nat):Int) ((byteN (b.drop k) 1:Nat):Int)).2
    ·have e:=euc_bad hi h1 q3
     exact F2 q3 e
    ·have e:=euc_two hi h1 h3 q3
     exact F3 q3 e w6
   ·have e:=euc_end hi h1 (by simp only [decide_eq_true_eq] at q2; omega)
    try simp -implicitDefEqProofs (maxSteps:=1000000) only [go_sem,q,q2,List.getElem?_eq_getElem hk,eb,w3,w5,e]
    repeat refine ⟨sc,?_⟩
    try exact sf
  ·have e:=euc_one hi (by rw [Int.toNat_natCast]; simp only [decide_eq_true_eq] at q; omega)
   try simp -implicitDefEqProofs (maxSteps:=1000000) only [go_sem,q,List.getElem?_eq_getElem hk,eb,w3,w5,e]
   repeat refine ⟨sc,?_⟩
   try exact sf
 ·have e:=euc_no hi
  have g:win i 0 ((b.length:Int) - 1)=false:=by
   simp only [win,Bool.and_eq_false_imp,decide_eq_true_eq,decide_eq_false_iff_not]
   omega
  refine X1 x_s_EucSign.eq_1 w1 ?_
  exact D2 (c_s_l1In _ _ _) g e
def x_s_PutRow:FnX:=⟨38,[.tmp 4],
  .q [.v 3 1,.op 4 (.mv (.k (.one (.nils 1))))]
 (.q [.op 6 (.bslice 1 []),.m 7 0,.op 8 (.app 1 1 (.t 6) (.t 7)),.m 5 8]
 (.seq (.q [.L 9 7 3,.c 10 289 [9],.N 11 10]
 (.c 11 (.q [.m 12 5,.m 4 12]
 .ret)))
 (.seq (.draw [.m 13 5,.f 14 3 0,.l 15 14,.c 16 284 [13,15],.f 17 3 5,.l 18 17,.op 19 (.conv (.int .u8) (.t 18)),.f 20 3 6,.l 21 20,.c 22 336 [21],.op 23 (.bslice 1 [(.t 19),(.t 22)]),.op 24 (.app 1 1 (.t 16) (.t 23)),.m 5 24] [[],[],[1],[0,2],[],[4],[5],[],[7],[8,3],[6,9],[3,10,9],[11,11,0,1,2,3,4,5,6,7,8,9,10,11]])
 (.seq (.q [.L 25 7 3,.c 26 291 [25]]
 (.c 26 (.reg [.m 27 5,.f 28 3 1,.L 29 2 28,.op 30 (.call 337 [1,0] [(.t 27),(.t 29)]),.m 5 30])))
 (.seq (.q [.L 31 7 3,.c 32 196 [31]]
 (.c 32 (.reg [.m 33 5,.f 34 3 3,.L 35 2 34,.op 36 (.call 337 [1,0] [(.t 33),(.t 35)]),.m 5 36])))
 (.q [.m 37 5,.m 4 37]
 .ret))))))⟩
theorem r_s_PutRow {Te:TE} (c_s_RowOk:C_s_RowOk Te) (c_s_PutText:C_s_PutText Te) (c_s_l11Bit:C_s_l11Bit Te) (c_s_l9Old:C_s_l9Old Te) (c_s_l11Cell:C_s_l11Cell Te) (c_s_l9New:C_s_l9New Te):C_s_PutRow (RF Te x_s_PutRow):=by
 intro b r hb h
 obtain ⟨h1,h2,h3⟩:=h
 have l0:=putText_len b r.Key
 have l1:=putRow1_len b r
 have l2:=putRow2_len b r
 refine X0 x_s_PutRow.eq_1 ?_
 refine C0 (c_s_RowOk r ⟨h1,h2,h3⟩) ?_
 cases g:r.ok
 ·try simp -implicitDefEqProofs (maxSteps:=1000000) only [go_sem,putRow,g,if_false,reduceCtorEq]
  repeat refine ⟨sc,?_⟩
  try exact sf
 have ep:putRow b r=putRow3 b r:=if_pos g
 refine G0 ?_
 refine C0 (c_s_PutText b r.Key (by omega) h1) ?_
 refine .of (c_s_l11Bit r.Aside) ?_
 try simp -implicitDefEqProofs (maxSteps:=1000000) only [go_sem,mkU_wrap,app2B,take2B]
 repeat refine ⟨sc,?_⟩
 try exact sf
 have e1:putText b r.Key++[mkU r.Has,bif r.Aside then 1 else 0]=putRow1 b r:=rfl
 have e2:(putText b r.Key).length + 2=(putRow1 b r).length:=by rw [putRow1,List.length_append]; rfl
 simp only [e1,e2]
 have gw:=win13 (rowOk_win g)
 refine C0 (c_s_l9Old r gw) ?_
 by_cases q2:r.Has=2
 ·have k2:decide (r.Has≠2)=false:=by simp only [ne_eq,q2,not_true_eq_false,decide_false]
  have k1:decide (r.Has≠1)=true:=decide_eq_true (by omega)
  have e3:putRow2 b r=putRow1 b r:=if_pos q2
  have e4:putRow3 b r=putCell (putRow1 b r) r.New:=by rw [putRow3,if_neg (by omega),e3]
  refine G1 k2 ?_
  refine C1 (c_s_l9New r gw) k1 ?_
  exact D2 (c_s_l11Cell (putRow1 b r) r.New (by omega) h3) ep e4
 ·have k2:decide (r.Has≠2)=true:=decide_eq_true q2
  have e3:putRow2 b r=putCell (putRow1 b r) r.Old:=if_neg q2
  have tt:=c_s_l11Cell (putRow1 b r) r.Old (by omega) h2
  rw [← e3] at tt
  refine G1 k2 ?_
  refine C0 (tt) ?_
  refine C0 (c_s_l9New r gw) ?_
  by_cases q1:r.Has=1
  ·have k1:decide (r.Has≠1)=false:=by simp only [ne_eq,q1,not_true_eq_false,decide_false]
   have e4:putRow3 b r=putRow2 b r:=if_pos q1
   exact F3 k1 ep e4
  ·have k1:decide (r.Has≠1)=true:=decide_eq_true q1
   have e4:putRow3 b r=putCell (putRow2 b r) r.New:=if_neg q1
   refine G1 k1 ?_
   exact D2 (c_s_l11Cell (putRow2 b r) r.New (by omega) h3) ep e4
def x_s_l10Flush:FnX:=⟨46,[],
  .seq (.q [.m 3 0,.op 4 (.nilc (.t 3)),.f 5 4 3,.l 6 5,.m 7 6,.z 7 (.m 8 0),.z 7 (.op 9 (.call 281 [6] [(.t 8)])),.z 7 (.N 10 9),.r 11 7 10]
 (.c 11 .ret))
 (.seq (.q [.i 2 0]
 (.block 0 (.loop [0,2] (.seq (.q [.m 12 2,.m 13 0,.op 14 (.nilc (.t 13)),.f 15 14 1,.l 16 15,.n 17 16,.b 18 .lss 12 17]
 (.cond 18 .skip (.exit 0)))
 (.seq (.block 1 (.draw [.m 21 0,.op 22 (.nilc (.t 21)),.f 23 22 0,.l 24 23,.m 25 0,.op 26 (.nilc (.t 25)),.f 27 26 1,.l 28 27,.m 29 2,.x 30 2 28 29,.f 31 30 0,.l 32 31,.m 33 0,.op 34 (.nilc (.t 33)),.f 35 34 1,.l 36 35,.m 37 2,.x 38 2 36 37,.f 39 38 1,.l 40 39,.x 41 1 24 32,.s 100001 1 41 40] [[],[0],[1],[2],[],[4],[5],[6],[],[7,8],[9],[10],[],[12],[13],[14],[],[15,16],[17],[18],[3,11,0,1,2,3,4,5,6,7,8,9,10,11,12,13,14,15,16,17,18,19],[20,19,0,1,2,3,4,5,6,7,8,9,10,11,12,13,14,15,16,17,18,19]]))
 (.reg [.m 19 2,.B 20 .add 19 1,.m 2 20]))))))
 (.norm [0] (.reg [.m 42 0,.op 43 (.bslice 2 []),.op 44 (.nilc (.t 42)),.f 45 44 1,.s 100002 1 45 43])))⟩
theorem r_s_l10Flush {Te:TE} (c_s_l10Op:C_s_l10Op Te):C_s_l10Flush (RF Te x_s_l10Flush):=by
 intro d hd hidx
 refine X0 x_s_l10Flush.eq_1 ?_
 cases g1:d.Down
 rotate_left
 ·have e:d.flush=d:=by rw [DevV.flush,if_pos g1]
  try simp -implicitDefEqProofs (maxSteps:=1000000) only [go_sem,g1,e,take_all,DevV.enc]
  repeat refine ⟨sc,?_⟩
  try exact sf
  try rfl
 have e:=show d.flush=if d.Fuse=0 then d.burn else ⟨flushed d.Secs d.Cache,[],d.burn.Fuse,d.burn.Down⟩ from if_neg (by rw [g1]; decide)
 refine G1 g1 ?_
 have tb:=c_s_l10Op d
 simp only [DevV.enc,g1] at tb
 have bc:=burn_cache d
 have bs:=burn_secs d
 cases g6:(d.Fuse==0)
 rotate_left
 ·have g7:d.Fuse=0:=by simpa using g6
  rw [if_pos g7] at e
  refine .of (tb) ?_
  try simp -implicitDefEqProofs (maxSteps:=1000000) only [go_sem,g6,take_all,e,g1,DevV.enc]
  repeat refine ⟨sc,?_⟩
  try exact sf
  try rfl
 have g7:¬ d.Fuse=0:=by simpa using g6
 rw [if_neg g7] at e
 refine C1 (tb) g6 ?_
 refine loop_of (σ:=Nat×List (List UInt8)) (fun x=>⟨[(0,.bp 0 0),(2,.one (.pv (.int .i64 x.1)))],[(0,[.rf 47 1 [] 1 0 d.Secs.length,.rf 47 2 [] 2 0 d.Cache.length,.pv (.int .i64 d.burn.Fuse),.pv (.bool d.burn.Down)])],[(0,[.no (),.no (),iT d.Fuse,bT false]),(47,[bT true,slT true 1 (secR true) x.2,Tr.sl true 2 () (mvRows d.Cache x.1),iT d.burn.Fuse,bT d.burn.Down])]⟩) (fun x=>x.1≤d.Cache.length∧x.2=flushed d.Secs (d.Cache.take x.1)) (fun x=>d.Cache.length - x.1) (0,d.Secs) ?_ ⟨Nat.zero_le _,rfl⟩ ?_
 ·simp -implicitDefEqProofs (maxSteps:=1000000) only [go_sem,bs,bc]
  try rfl
 ·rintro ⟨i,S⟩ ⟨hi,he⟩
  simp only at hi he
  have hl:S.length=d.Secs.length:=by rw [he,flushed_len]
  have hl2:(List.map (secR true) S).length=d.Secs.length:=by rw [List.length_map,hl]
  cases q:decide ((i:Int) < (d.Cache.length:Int))
  ·have k0:i=d.Cache.length:=by simp only [decide_eq_false_iff_not] at q; omega
   rw [k0,List.take_length] at he
   have et:List.take d.Secs.length (List.map (secR true) S)=List.map (secR true) S:=List.take_of_length_le (by omega)
   rw [← he] at e
   exact F3 q et e
  ·have k1:i < d.Cache.length:=by simp only [decide_eq_true_eq] at q; omega
   have hw:=hidx _ (List.getElem_mem k1)
   have g8:decide (0≤d.Cache[i].N)=true:=decide_eq_true hw.1
   have hn:d.Cache[i].N.toNat < S.length:=by omega
   have em:=mv_get k1
   have ec:(mvRows d.Cache i).getD i []=d.Cache[i].enc true:=by rw [List.getD_eq_getElem?_getD,em]; rfl
   have ex:=mv_set k1
   have eg:=getS hn
   have es:=setS S d.Cache[i].N.toNat d.Cache[i].B
   try simp -implicitDefEqProofs (maxSteps:=1000000) only [go_sem,q,em,ec,ex,mv_len,take_rows,g8,storeAp,setCells,eg,es,hl2]
   repeat refine ⟨sc,?_⟩
   try exact sf
   refine ⟨(i + 1,S.set d.Cache[i].N.toNat d.Cache[i].B),?_,⟨k1,by rw [he,flushed_step k1]⟩,by simp only; omega⟩
   rw [IntWalk.i64_in _ (by omega)]
   rfl
def x_i_NodeNew:FnX:=⟨10,[.cell 2 (some 10)],
  .q [.op 2 (.alloc [.nils 1,.nils 2,.i 0,.F,.nils 7,.i 0,.nils 3,.i 0,.i 0,.i 0])]
 (.seq (.q [.m 3 0,.op 4 (.call 90 [0,0,0] [(.t 3),(.i 1),(.i 5)]),.N 5 4]
 (.c 5 (.q [.op 6 (.build [.nils 1,.nils 2,.i 0,.F,.nils 7,.i 0,.nils 3,.i 0,.i 0,.i 0] []),.s 100001 10 2 6]
 .ret)))
 (.q [.c 7 121 [],.m 8 0,.op 9 (.build [.nils 1,.nils 2,.i 0,.F,.nils 7,.i 0,.nils 3,.i 0,.i 0,.i 0] [(0,9,(.t 7)),(9,1,(.t 8))]),.s 100002 10 2 9]
 .ret))⟩
theorem r_i_NodeNew {Te:TE} (c_i_within:C_i_within Te) (c_i_Format:C_i_Format Te):C_i_NodeNew (RF Te x_i_NodeNew):=by
 intro cs
 refine X0 x_i_NodeNew.eq_1 ?_
 refine C0 (c_i_within _ _ _) ?_
 cases g:win cs 1 5
 ·have e:nodeNew cs=NodeV.zero:=by rw [nodeNew,g]; rfl
  exact F1 e
 ·have e:nodeNew cs=⟨fmt,cs⟩:=by rw [nodeNew,g]; rfl
  refine G1 e ?_
  exact D0 (c_i_Format)
def x_s_NodeNew:FnX:=⟨10,[.cell 2 (some 10)],
  .q [.op 2 (.alloc [.nils 1,.nils 2,.i 0,.F,.nils 7,.i 0,.nils 3,.i 0,.i 0,.i 0])]
 (.seq (.q [.m 3 0,.op 4 (.call 120 [0,0,0] [(.t 3),(.i 1),(.i 5)]),.N 5 4]
 (.c 5 (.q [.op 6 (.build [.nils 1,.nils 2,.i 0,.F,.nils 7,.i 0,.nils 3,.i 0,.i 0,.i 0] []),.s 100001 10 2 6]
 .ret)))
 (.q [.c 7 122 [],.m 8 0,.op 9 (.build [.nils 1,.nils 2,.i 0,.F,.nils 7,.i 0,.nils 3,.i 0,.i 0,.i 0] [(0,9,(.t 7)),(9,1,(.t 8))]),.s 100002 10 2 9]
 .ret))⟩
theorem r_s_NodeNew {Te:TE} (c_s_l1In:C_s_l1In Te) (c_s_Format:C_s_Format Te):C_s_NodeNew (RF Te x_s_NodeNew):=by
 intro cs
 refine X0 x_s_NodeNew.eq_1 ?_
 refine C0 (c_s_l1In _ _ _) ?_
 cases g:win cs 1 5
 ·have e:nodeNew cs=NodeV.zero:=by rw [nodeNew,g]; rfl
  exact F1 e
 ·have e:nodeNew cs=⟨fmt,cs⟩:=by rw [nodeNew,g]; rfl
  refine G1 e ?_
  exact D0 (c_s_Format)
def x_i_PutEuc:FnX:=⟨36,[.tmp 4,.tmp 5],
  .q [.op 4 (.mv (.k (.one (.nils 1)))),.F 5]
 (.seq (.q [.m 9 1,.op 10 (.call 90 [0,0,0] [(.t 9),(.i 0),(.i 127)])]
 (.c 10 (.q [.m 11 0,.m 12 1,.op 13 (.conv (.int .u8) (.t 12)),.op 14 (.bslice 1 [(.t 13)]),.op 15 (.bslice 1 [(.t 11),(.t 14)]),.c 16 100 [15],.m 4 16,.T 5]
 .ret)))
 (.q [.m 18 1,.c 19 385 [18],.m 17 19,.e 20 17 0,.e 21 17 1,.e 22 17 2,.m 6 20,.m 7 21,.m 8 22]
 (.seq (.q [.m 23 8,.N 24 23]
 (.c 24 (.q [.m 25 0,.op 26 (.bslice 1 [(.t 25)]),.c 27 100 [26],.m 4 27,.F 5]
 .ret)))
 (.q [.m 28 0,.m 29 6,.op 30 (.conv (.int .u8) (.t 29)),.m 31 7,.op 32 (.conv (.int .u8) (.t 31)),.op 33 (.bslice 1 [(.t 30),(.t 32)]),.op 34 (.bslice 1 [(.t 28),(.t 33)]),.c 35 100 [34],.m 4 35,.T 5]
 .ret))))⟩
theorem r_i_PutEuc {Te:TE} (c_i_within:C_i_within Te) (c_i_joined:C_i_joined Te) (c_i_SignPair:C_i_SignPair Te):C_i_PutEuc (RF Te x_i_PutEuc):=by
 intro b n hb
 refine X0 x_i_PutEuc.eq_1 ?_
 refine C0 (c_i_within _ _ _) ?_
 cases g:win n 0 127
 ·refine G0 ?_
  refine C0 (c_i_SignPair _) ?_
  cases g2:(signPair n).2.2
  ·have e:putEuc b n=(b,false):=by rw [putEuc,g,g2]; rfl
   refine G1 g2 ?_
   refine .of (c_i_joined [b] (by rw [flat1]; omega) (by show 1≤2 ^ 31; decide)) ?_
   try simp -implicitDefEqProofs (maxSteps:=1000000) only [go_sem,flat1,e,take_rows]
   repeat refine ⟨sc,?_⟩
   try exact sf
   try rfl
  ·have e:putEuc b n=(b++[mkU (signPair n).1,mkU (signPair n).2.1],true):=by rw [putEuc,g,g2]; rfl
   try simp -implicitDefEqProofs (maxSteps:=1000000) only [go_sem,g2,mkU_wrap]
   repeat refine ⟨sc,?_⟩
   try exact sf
   refine .of (c_i_joined [b,[mkU (signPair n).1,mkU (signPair n).2.1]] (by rw [flat2,List.length_append]; simp only [List.length_cons,List.length_nil]; omega) (by show 2≤2 ^ 31; decide)) ?_
   try simp -implicitDefEqProofs (maxSteps:=1000000) only [go_sem,flat2,e,take_rows,take1B,take2B]
   repeat refine ⟨sc,?_⟩
   try exact sf
   try rfl
 ·have e:putEuc b n=(b++[mkU n],true):=by rw [putEuc,g]; rfl
  try simp -implicitDefEqProofs (maxSteps:=1000000) only [go_sem,mkU_wrap]
  repeat refine ⟨sc,?_⟩
  try exact sf
  refine .of (c_i_joined [b,[mkU n]] (by rw [flat2,List.length_append]; simp only [List.length_cons,List.length_nil]; omega) (by show 2≤2 ^ 31; decide)) ?_
  try simp -implicitDefEqProofs (maxSteps:=1000000) only [go_sem,flat2,e,take_rows,take1B,take2B]
  repeat refine ⟨sc,?_⟩
  try exact sf
  try rfl
def x_s_PutEuc:FnX:=⟨36,[.tmp 4,.tmp 5],
  .q [.op 4 (.mv (.k (.one (.nils 1)))),.F 5]
 (.q [.op 10 (.bslice 1 []),.m 11 0,.op 12 (.app 1 1 (.t 10) (.t 11)),.m 6 12]
 (.seq (.q [.m 13 1,.op 14 (.call 120 [0,0,0] [(.t 13),(.i 0),(.i 127)])]
 (.c 14 (.q [.m 15 6,.m 16 1,.op 17 (.conv (.int .u8) (.t 16)),.op 18 (.bslice 1 [(.t 17)]),.op 19 (.app 1 1 (.t 15) (.t 18)),.m 4 19,.T 5]
 .ret)))
 (.q [.m 21 1,.c 22 355 [21],.m 20 22,.e 23 20 0,.e 24 20 1,.e 25 20 2,.m 7 23,.m 8 24,.m 9 25]
 (.seq (.q [.m 26 9,.N 27 26]
 (.c 27 (.q [.m 28 6,.m 4 28,.F 5]
 .ret)))
 (.q [.m 29 6,.m 30 7,.op 31 (.conv (.int .u8) (.t 30)),.m 32 8,.op 33 (.conv (.int .u8) (.t 32)),.op 34 (.bslice 1 [(.t 31),(.t 33)]),.op 35 (.app 1 1 (.t 29) (.t 34)),.m 4 35,.T 5]
 .ret)))))⟩
theorem r_s_PutEuc {Te:TE} (c_s_l1In:C_s_l1In Te) (c_s_SignPair:C_s_SignPair Te):C_s_PutEuc (RF Te x_s_PutEuc):=by
 intro b n hb
 refine X0 x_s_PutEuc.eq_1 ?_
 refine C0 (c_s_l1In _ _ _) ?_
 cases g:win n 0 127
 ·refine G0 ?_
  refine C0 (c_s_SignPair _) ?_
  cases g2:(signPair n).2.2
  ·have e:putEuc b n=(b,false):=by rw [putEuc,g,g2]; rfl
   exact F2 g2 e
  ·have e:putEuc b n=(b++[mkU (signPair n).1,mkU (signPair n).2.1],true):=by rw [putEuc,g,g2]; rfl
   try simp -implicitDefEqProofs (maxSteps:=1000000) only [go_sem,g2,mkU_wrap,app2B,take2B,e,take_rows]
   repeat refine ⟨sc,?_⟩
   try exact sf
   try rfl
 ·have e:putEuc b n=(b++[mkU n],true):=by rw [putEuc,g]; rfl
  try simp -implicitDefEqProofs (maxSteps:=1000000) only [go_sem,mkU_wrap,app1B,take1B,e,take_rows]
  repeat refine ⟨sc,?_⟩
  try exact sf
  try rfl
end Go.X

