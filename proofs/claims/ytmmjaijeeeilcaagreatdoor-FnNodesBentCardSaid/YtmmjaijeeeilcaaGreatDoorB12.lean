/- Texts: CVe_3 CVr_2 CVzr_3 CF CR_2 CVi_2 CVc CVj_2 CVz_2 CVy_3 CG. -/
import Derived.Test.YtmmjaijeeeilcaaGreatDoorB04
set_option linter.unusedVariables false
set_option linter.unusedSimpArgs false
namespace Go.X
set_option maxRecDepth 100000
set_option maxHeartbeats 8000000
def x_s_RowOk:FnX:=⟨106,[.tmp 2],
  .q [.v 1 0,.F 2]
 (.seq (.q [.f 7 1 0,.l 8 7,.c 9 101 [8],.N 10 9,.m 11 10,.z 11 (.f 12 1 5),.z 11 (.l 13 12),.z 11 (.op 14 (.call 120 [0,0,0] [(.t 13),(.i 1),(.i 3)])),.z 11 (.N 15 14),.r 16 11 15,.m 17 16,.z 17 (.L 18 7 1),.z 17 (.c 19 291 [18]),.z 17 (.N 20 19),.z 17 (.m 21 20),.y 21 (.f 22 1 1),.y 21 (.L 23 2 22),.y 21 (.c 24 339 [23]),.y 21 (.N 25 24),.z 17 (.a 26 21 25),.r 27 17 26,.m 28 27,.z 28 (.L 29 7 1),.z 28 (.c 30 196 [29]),.z 28 (.N 31 30),.z 28 (.m 32 31),.y 32 (.f 33 1 3),.y 32 (.L 34 2 33),.y 32 (.c 35 339 [34]),.y 32 (.N 36 35),.z 28 (.a 37 32 36),.r 38 28 37]
 (.c 38 (.q [.F 2]
 .ret)))
 (.q [.f 40 1 1,.L 41 2 40,.c 42 197 [41],.m 39 42,.e 43 39 0,.e 44 39 1,.m 3 43,.m 4 44]
 (.q [.f 46 1 3,.L 47 2 46,.c 48 197 [47],.m 45 48,.e 49 45 0,.e 50 45 1,.m 5 49,.m 6 50]
 (.seq (.block 0 (.q [.L 52 7 1,.c 53 291 [52],.m 54 53,.y 54 (.f 55 1 1),.y 54 (.f 56 55 0),.y 54 (.l 57 56),.y 54 (.op 58 (.call 120 [0,0,0] [(.t 57),(.i 1),(.i 5)])),.y 54 (.N 59 58),.y 54 (.m 60 59),.z 60 (.f 61 1 1),.z 60 (.L 62 2 61),.z 60 (.c 63 286 [62]),.z 60 (.N 64 63),.y 54 (.r 65 60 64),.a 66 54 65,.m 51 66]
 (.cond 51 (.q [.F 2]
 .ret) (.q [.L 68 7 1,.c 69 196 [68],.m 70 69,.y 70 (.f 71 1 3),.y 70 (.f 72 71 0),.y 70 (.l 73 72),.y 70 (.B 74 .neq 73 0),.y 70 (.m 75 74),.z 75 (.m 76 6),.z 75 (.N 77 76),.y 70 (.r 78 75 77),.a 79 70 78,.m 67 79]
 (.cond 67 (.q [.F 2]
 .ret) (.q [.L 81 7 1,.c 82 291 [81],.m 83 82,.y 83 (.m 84 4),.y 83 (.N 85 84),.a 86 83 85,.m 87 86,.y 87 (.f 88 1 6),.y 87 (.l 89 88),.y 87 (.N 90 89),.y 87 (.m 91 90),.z 91 (.L 92 7 1),.z 91 (.c 93 196 [92]),.y 87 (.r 94 91 93),.a 95 87 94,.m 80 95]
 (.c 80 (.q [.F 2]
 .ret))))))))
 (.q [.f 96 1 5,.l 97 96,.B 98 .neq 97 3,.m 99 98,.z 99 (.f 100 1 1),.z 99 (.L 101 2 100),.z 99 (.f 102 1 3),.z 99 (.L 103 2 102),.z 99 (.c 104 340 [101,103]),.r 105 99 104,.m 2 105]
 .ret)))))⟩
theorem r_s_RowOk {Te:TE} (c_s_NameOk:C_s_NameOk Te) (c_s_l1In:C_s_l1In Te) (c_s_l9Old:C_s_l9Old Te) (c_s_l9None:C_s_l9None Te) (c_s_l9New:C_s_l9New Te) (c_s_CellText:C_s_CellText Te) (c_s_CellOk:C_s_CellOk Te) (c_s_SameText:C_s_SameText Te):C_s_RowOk (RF Te x_s_RowOk):=by
 intro r h
 obtain ⟨hk,_⟩:=h
 refine X0 x_s_RowOk.eq_1 ?_
 refine C0 (c_s_NameOk r.Key hk) ?_
 cases g1:nameOk r.Key
 ·have e:=rowOk_name (r:=r) g1
  exact F1 e
 refine G0 ?_
 refine C0 (c_s_l1In _ _ _) ?_
 cases g2:win r.Has 1 3
 ·have e:=rowOk_has (r:=r) g2
  exact F1 e
 have h3:=win13 g2
 obtain ⟨key,old,new,has,aside⟩:=r
 simp only at h3 g1 hk
 clear g2
 rcases h3 with rfl | rfl | rfl
 ·skip
  have e:=rowOk_1 (o:=old) (n:=new) (a:=aside) g1
  refine G0 ?_
  refine C0 (c_s_l9Old ⟨key,old,new,1,aside⟩ (by simp)) ?_
  refine C0 (c_s_l9New ⟨key,old,new,1,aside⟩ (by simp)) ?_
  refine C0 (c_s_l9None new) ?_
  cases n1:new.no
  ·exact F2 n1 e
  refine G1 n1 ?_
  refine C0 (c_s_CellText old) ?_
  refine C0 (c_s_CellText new) ?_
  refine C0 (c_s_l9Old ⟨key,old,new,1,aside⟩ (by simp)) ?_
  refine C0 (c_s_l1In _ _ _) ?_
  cases w:win old.Tag 1 5
  ·have e2:=tag_no w
   exact F3 w e e2
  have t:=tag_yes w
  refine G1 w ?_
  refine C0 (c_s_CellOk old) ?_
  cases o1:old.ok
  ·exact F2 o1 e
  refine G1 o1 ?_
  refine C0 (c_s_l9New ⟨key,old,new,1,aside⟩ (by simp)) ?_
  refine C0 (c_s_l9Old ⟨key,old,new,1,aside⟩ (by simp)) ?_
  cases o3:old.text.2
  ·cases aside
   ·exact F4 o3 e o1 t
   ·refine G1 o3 ?_
    refine .of (c_s_l9New ⟨key,old,new,1,true⟩ (by simp)) ?_
    try simp -implicitDefEqProofs (maxSteps:=1000000) only [go_sem,e,o1,t,o3,n1]
    repeat refine ⟨sc,?_⟩
    try exact sf
  ·try simp -implicitDefEqProofs (maxSteps:=1000000) only [go_sem,o3,e,o1,t,n1]
   repeat refine ⟨sc,?_⟩
   try exact sf
 ·skip
  have e:=rowOk_2 (o:=old) (n:=new) (a:=aside) g1
  refine G0 ?_
  refine C0 (c_s_l9Old ⟨key,old,new,2,aside⟩ (by simp)) ?_
  refine C0 (c_s_l9None old) ?_
  cases o1:old.no
  ·exact F2 o1 e
  refine G1 o1 ?_
  refine C0 (c_s_l9New ⟨key,old,new,2,aside⟩ (by simp)) ?_
  refine C0 (c_s_CellText old) ?_
  refine C0 (c_s_CellText new) ?_
  refine C0 (c_s_l9Old ⟨key,old,new,2,aside⟩ (by simp)) ?_
  refine C0 (c_s_l9New ⟨key,old,new,2,aside⟩ (by simp)) ?_
  cases n1:(new.Tag==0)
  ·have n1':(new.Tag != 0)=true:=by rw [bne,n1]; rfl
   exact F3 n1' e n1
  have n1':(new.Tag != 0)=false:=by rw [bne,n1]; rfl
  cases n2:new.text.2
  ·exact F3 n1' n2 e
  refine G2 n1' n2 ?_
  exact D4 (c_s_l9Old ⟨key,old,new,2,aside⟩ (by simp)) e o1 n1 n2
 ·skip
  have e:=rowOk_3 (o:=old) (n:=new) (a:=aside) g1
  refine G0 ?_
  refine C0 (c_s_l9Old ⟨key,old,new,3,aside⟩ (by simp)) ?_
  refine C0 (c_s_l9New ⟨key,old,new,3,aside⟩ (by simp)) ?_
  refine C0 (c_s_CellText old) ?_
  refine C0 (c_s_CellText new) ?_
  refine C0 (c_s_l9Old ⟨key,old,new,3,aside⟩ (by simp)) ?_
  refine C0 (c_s_l1In _ _ _) ?_
  cases w:win old.Tag 1 5
  ·have e2:=tag_no w
   exact F3 w e e2
  have t:=tag_yes w
  refine G1 w ?_
  refine C0 (c_s_CellOk old) ?_
  cases o1:old.ok
  ·exact F2 o1 e
  refine G1 o1 ?_
  refine C0 (c_s_l9New ⟨key,old,new,3,aside⟩ (by simp)) ?_
  cases n1:(new.Tag==0)
  ·have n1':(new.Tag != 0)=true:=by rw [bne,n1]; rfl
   exact F3 n1' e n1
  have n1':(new.Tag != 0)=false:=by rw [bne,n1]; rfl
  cases n2:new.text.2
  ·exact F3 n1' n2 e
  refine G2 n1' n2 ?_
  refine C0 (c_s_l9Old ⟨key,old,new,3,aside⟩ (by simp)) ?_
  cases o3:old.text.2
  ·cases aside
   ·exact F4 o3 e o1 t
   ·refine G1 o3 ?_
    exact D2 (c_s_l9New ⟨key,old,new,3,true⟩ (by simp)) e o3
  refine G1 o3 ?_
  refine .of (c_s_SameText old new) ?_
  try simp -implicitDefEqProofs (maxSteps:=1000000) only [go_sem,e,o1,t,o3,n1,n2]
  repeat refine ⟨sc,?_⟩
  try exact sf
def x_s_l12Row:FnX:=⟨55,[.tmp 4],
  .q [.v 3 1,.op 4 (.mv (.k (.one (.nils 7))))]
 (.q [.op 8 (.bslice 7 []),.m 5 8]
 (.q [.F 6]
 (.seq (.q [.i 7 0]
 (.block 0 (.loop [0,3,5,6,7] (.seq (.q [.m 9 7,.m 10 0,.n 11 10,.b 12 .lss 9 11]
 (.cond 12 .skip (.exit 0)))
 (.seq (.block 1 (.seq (.seq (.draw [.m 15 6,.N 16 15,.m 17 16,.y 17 (.m 18 0),.y 17 (.m 19 7),.y 17 (.x 20 7 18 19),.y 17 (.f 21 20 0),.y 17 (.l 22 21),.y 17 (.f 23 3 0),.y 17 (.l 24 23),.y 17 (.b 25 .geq 22 24),.a 26 17 25] [[],[0],[1],[2],[2],[3,4,2],[5,2],[6,2],[2],[8,2],[7,9,2],[2,10]])
 (.c 26 (.q [.m 27 5,.L 28 7 3,.c 29 288 [28],.op 30 (.bslice 7 [(.t 29)]),.op 31 (.app 7 96 (.t 27) (.t 30)),.m 5 31]
 (.reg [.T 6]))))
 (.seq (.draw [.m 32 0,.m 33 7,.x 34 7 32 33,.f 35 34 0,.l 36 35,.f 37 3 0,.l 38 37,.b 39 .neq 36 38] [[],[],[0,1],[2],[3],[],[5],[4,6]])
 (.c 39 (.reg [.m 40 5,.m 41 0,.m 42 7,.x 43 7 41 42,.L 44 7 43,.op 45 (.bslice 7 [(.t 44)]),.op 46 (.app 7 96 (.t 40) (.t 45)),.m 5 46])))))
 (.reg [.m 13 7,.B 14 .add 13 1,.m 7 14]))))))
 (.norm [3,5,6] (.seq (.q [.m 47 6,.N 48 47]
 (.c 48 (.reg [.m 49 5,.L 50 7 3,.c 51 288 [50],.op 52 (.bslice 7 [(.t 51)]),.op 53 (.app 7 96 (.t 49) (.t 52)),.m 5 53])))
 (.q [.m 54 5,.m 4 54]
 .ret))))))⟩
theorem r_s_l12Row {Te:TE} (c_s_l9Copy:C_s_l9Copy Te):C_s_l12Row (RF Te x_s_l12Row):=by
 intro l r h hr
 refine X0 x_s_l12Row.eq_1 ?_
 refine loop_of (σ:=Nat×List RowV×Bool) (fun x=>⟨[(0,.one (.rf 0 0 [] 7 0 l.length)),(3,.bp 3 0),(5,.one (.rf 57 0 [] 7 0 x.2.1.length)),(6,.one (.pv (.bool x.2.2))),(7,.one (.pv (.int .i64 x.1)))],[(3,[.pv (.string r.Key),.pv (.int .i64 r.Old.Tag),.ro 1 (r.Old.B.map uR),.pv (.int .i64 r.New.Tag),.ro 1 (r.New.B.map uR),.pv (.int .i64 r.Has),.pv (.bool r.Aside)])],[(0,[Tr.sl true 7 () (leftRows r l x.1)]),(1,r.enc false),(57,[slT true 7 (RowV.enc true) x.2.1])]⟩) (fun x=>x.1≤l.length∧x.2=(l.take x.1).foldl (insR r) ([],false)) (fun x=>l.length - x.1) (0,[],false) ?_ ⟨Nat.zero_le _,rfl⟩ ?_
 ·simp -implicitDefEqProofs (maxSteps:=1000000) only [go_sem,left_zero]
  try rfl
 ·rintro ⟨i,o,p⟩ ⟨hi,he⟩
  simp only at hi he
  have hol:o.length≤2 * l.length:=by
   have:=insR_le r (l.take i) ([],false)
   rw [← he] at this
   simp only [List.length_nil,List.length_take] at this
   omega
  have ea:=app1Rw o r
  have et:List.take (o.length + 1) (List.map (RowV.enc true) (o++[r]))=List.map (RowV.enc true) (o++[r]):=List.take_of_length_le (by simp)
  cases q:decide ((i:Int) < (l.length:Int))
  ·have k0:i=l.length:=by simp only [decide_eq_false_iff_not] at q; omega
   rw [k0,List.take_length] at he
   subst k0
   cases p
   ·have e:insRow l r=o++[r]:=by rw [insRow,← he]; rfl
    refine G1 q ?_
    exact D3 (c_s_l9Copy r hr) e ea et
   ·have e:insRow l r=o:=by rw [insRow,← he]; rfl
    exact F2 q e
  ·have k1:i < l.length:=by simp only [decide_eq_true_eq] at q; omega
   have es:=insR_step (r:=r) k1
   rw [← he] at es
   have eg:=left_get (r:=r) k1
   have ed:(leftRows r l i).getD i []=l[i].enc true:=by rw [List.getD_eq_getElem?_getD,eg]; rfl
   have el:=left_len r l i
   have ex:=left_set (r:=r) k1
   have e1:∀ X:List T,((leftRows r l i).set i X)[i]?=some X:=fun X=>List.getElem?_set_self (by rw [el]; exact k1)
   have e2:∀ X:List T,((leftRows r l i).set i X).getD i []=X:=fun X=>by rw [List.getD_eq_getElem?_getD,e1]; rfl
   have eb:=app1Rw o l[i]
   have ec:=app1Rw (o++[r]) l[i]
   cases g2:decide (l[i].Key=r.Key) <;> cases g1:Op.bytesLess l[i].Key.toList r.Key.toList <;> cases p
   all_goals
    simp only [insR,g1,g2,Bool.not_true,Bool.not_false,Bool.and_true,Bool.and_false,Bool.or_true,Bool.or_false,Bool.true_or,Bool.false_or,Bool.true_and,Bool.false_and,if_true,if_false,Bool.false_eq_true] at es
    simp only [leftR,g2,if_true,if_false,Bool.false_eq_true] at ex
    try simp -implicitDefEqProofs (maxSteps:=1000000) only [go_sem,q,g1,g2,eg,ed,el,ex,e1,e2,List.set_set,List.length_set,take_rows,take_all,ea,eb,ec,et]
    repeat refine ⟨sc,?_⟩
   all_goals try (refine .of (c_s_l9Copy r hr) ?_; try simp -implicitDefEqProofs (maxSteps:=1000000) only [go_sem,g1,g2,eg,ed,el,ex,e1,e2,List.set_set,List.length_set,take_rows,take_all,ea,eb,ec,et])
   all_goals
    repeat refine ⟨sc,?_⟩
   all_goals
    refine ⟨(i + 1,(l.take (i + 1)).foldl (insR r) ([],false)),?_,⟨k1,rfl⟩,by simp only; omega⟩
    rw [← es,IntWalk.i64_in _ (by omega)]
    try simp only [List.length_append]
    try rw [left_same k1 g2]
    rfl
def x_s_l9Any:FnX:=⟨41,[.cell 2 (some 7)],
  .q [.op 2 (.alloc [.e,.i 0,.nils 1,.i 0,.nils 1,.i 0,.F])]
 (.q [.m 4 0,.op 5 (.call 353 [5] [(.t 4)]),.op 3 (.alloc [.e,.i 0,.nils 1,.i 0,.nils 1,.i 0,.F]),.s 100001 7 3 5]
 (.seq (.q [.m 6 0,.op 7 (.call 96 [5,0] [(.t 6),(.i 14)])]
 (.block 0 (.q [.B 9 .eql 7 0,.m 8 9]
 (.cond 8 (.reg [.m 10 0,.op 11 (.call 95 [5] [(.t 10)]),.f 12 3 0,.s 100002 1 12 11]) (.q [.B 14 .eql 7 1,.m 13 14]
 (.cond 13 (.reg [.m 15 0,.op 16 (.bslice 1 [(.i 0),(.i 1),(.i 2),(.i 3),(.i 4),(.i (-1))]),.op 17 (.call 70 [5,1] [(.t 15),(.t 16)]),.f 18 3 5,.s 100003 1 18 17]) (.q [.B 20 .eql 7 2,.m 19 20]
 (.cond 19 (.reg [.f 21 3 6,.l 22 21,.N 23 22,.f 24 3 6,.s 100004 1 24 23]) (.q [.B 26 .eql 7 3,.m 25 26]
 (.cond 25 (.reg [.m 27 0,.op 28 (.call 354 [5] [(.t 27)]),.f 29 3 1,.s 100005 2 29 28]) (.q [.B 31 .eql 7 4,.m 30 31]
 (.cond 30 (.reg [.m 32 0,.op 33 (.call 354 [5] [(.t 32)]),.f 34 3 3,.s 100006 2 34 33]) (.q [.B 36 .eql 7 5,.m 35 36]
 (.c 35 (.reg [.op 37 (.bslice 1 [(.k (.one (.pv (.int .u8 129))))]),.f 38 3 1,.f 39 38 1,.s 100007 1 39 37])))))))))))))))
 (.q [.L 40 7 3,.s 100008 7 2 40]
 .ret)))⟩
theorem r_s_l9Any {Te:TE} (c_s_l9Draw:C_s_l9Draw Te) (c_s_l1Below:C_s_l1Below Te) (c_s_l1Text:C_s_l1Text Te) (c_s_l1Int:C_s_l1Int Te) (c_s_l8Any:C_s_l8Any Te):∀ (c:CurV) (hc:c.ok),∃ r0,(∃ (r:RowV) (d:CurV),(r.In (2 ^ 20)∧d.ok)∧r0=(⟨[.agg (r.enc true)],[d.enc]⟩:Res))∧RunFn Te x_s_l9Any [.ptr c.enc] r0:=by
 intro c hc
 refine some_of (Nat.le_of_ble_eq_true rfl) (by rfl) ?_
 have e:∀ j k:Int,k≠j→(k==j)=false:=fun j k h=>by simpa using h
 simp -implicitDefEqProofs (maxSteps:=1000000) only [x_s_l9Any,go_sem]
 repeat refine ⟨sc,?_⟩
 try exact sf
 obtain ⟨x,d,⟨⟨h0,h1,h2⟩,hd⟩,ht⟩:=c_s_l9Draw c hc
 refine C0 (ht) ?_
 obtain ⟨k,d,⟨_,hd⟩,ht⟩:=c_s_l1Below d 14 hd
 by_cases q0:k=0
 ·subst q0
  obtain ⟨r,d,⟨hr,hd⟩,ht1⟩:=c_s_l1Text d hd
  refine C0 (ht) ?_
  refine C0 (ht1) ?_
  exact ⟨⟨r,x.Old,x.New,x.Has,x.Aside⟩,d,⟨⟨by show r.size≤_; omega,h1,h2⟩,hd⟩,rfl⟩
 by_cases q1:k=1
 ·subst q1
  obtain ⟨r,d,⟨_,hd⟩,ht1⟩:=c_s_l1Int d [0,1,2,3,4,-1] hd (by decide)
  refine C0 (ht) ?_
  refine C0 (ht1) ?_
  exact ⟨⟨x.Key,x.Old,x.New,r,x.Aside⟩,d,⟨⟨h0,h1,h2⟩,hd⟩,rfl⟩
 by_cases q2:k=2
 ·subst q2
  refine C0 (ht) ?_
  exact ⟨⟨x.Key,x.Old,x.New,x.Has,!x.Aside⟩,d,⟨⟨h0,h1,h2⟩,hd⟩,rfl⟩
 by_cases q3:k=3
 ·subst q3
  obtain ⟨y,d,⟨hy,hd⟩,ht1⟩:=c_s_l8Any d hd
  refine C0 (ht) ?_
  refine C0 (ht1) ?_
  exact ⟨⟨x.Key,y,x.New,x.Has,x.Aside⟩,d,⟨⟨h0,hy,h2⟩,hd⟩,rfl⟩
 by_cases q4:k=4
 ·subst q4
  obtain ⟨y,d,⟨hy,hd⟩,ht1⟩:=c_s_l8Any d hd
  refine C0 (ht) ?_
  refine C0 (ht1) ?_
  exact ⟨⟨x.Key,x.Old,y,x.Has,x.Aside⟩,d,⟨⟨h0,h1,hy⟩,hd⟩,rfl⟩
 by_cases q5:k=5
 ·subst q5
  refine C0 (ht) ?_
  exact ⟨⟨x.Key,⟨x.Old.Tag,[129]⟩,x.New,x.Has,x.Aside⟩,d,⟨⟨h0,by show 1≤2 ^ 20; decide,h2⟩,hd⟩,rfl⟩
 refine .of (ht) ?_
 try simp -implicitDefEqProofs (maxSteps:=1000000) only [go_sem,e 0 k q0,e 1 k q1,e 2 k q2,e 3 k q3,e 4 k q4,e 5 k q5]
 repeat refine ⟨sc,?_⟩
 try exact sf
 exact ⟨x,d,⟨⟨h0,h1,h2⟩,hd⟩,rfl⟩
def x_s_l11Draw:FnX:=⟨44,[.cell 2 (some 13)],
  .q [.op 2 (.alloc [.i 0,.e,.i 0,.nils 1,.i 0,.nils 1,.i 0,.F,.e,.i 0,.i 0,.i 0,.i 0])]
 (.q [.m 4 0,.op 5 (.call 96 [5,0] [(.t 4),(.i 4)]),.op 6 (.bin .add (.i 1) (.t 5)),.op 7 (.build [.i 0,.e,.i 0,.nils 1,.i 0,.nils 1,.i 0,.F,.e,.i 0,.i 0,.i 0,.i 0] [(0,1,(.t 6))]),.op 3 (.alloc [.i 0,.e,.i 0,.nils 1,.i 0,.nils 1,.i 0,.F,.e,.i 0,.i 0,.i 0,.i 0]),.s 100001 13 3 7]
 (.seq (.q [.f 8 3 0,.l 9 8]
 (.block 0 (.q [.B 11 .eql 9 1,.m 10 11]
 (.cond 10 (.reg [.m 12 0,.op 13 (.call 353 [5] [(.t 12)]),.f 14 3 1,.s 100002 7 14 13]) (.q [.B 16 .eql 9 2,.m 15 16]
 (.cond 15 (.reg [.m 17 0,.op 18 (.call 93 [5] [(.t 17)]),.f 19 3 8,.s 100003 1 19 18]) (.q [.B 21 .eql 9 3,.m 20 21]
 (.c 20 (.reg [.m 22 0,.op 23 (.call 96 [5,0] [(.t 22),(.i 8)]),.f 24 3 9,.s 100004 1 24 23])))))))))
 (.seq (.q [.f 25 3 0,.l 26 25,.B 27 .eql 26 4,.m 28 27,.z 28 (.m 29 0),.z 28 (.op 30 (.call 94 [5,0] [(.t 29),(.i 2)])),.r 31 28 30]
 (.c 31 (.q [.m 32 0,.op 33 (.call 96 [5,0] [(.t 32),(.i 3)]),.op 34 (.bin .add (.i 1) (.t 33)),.f 35 3 10,.s 100005 1 35 34]
 (.q [.m 36 0,.op 37 (.bslice 1 [(.i 0),(.i 1),(.i 2),(.i 65535)]),.op 38 (.call 70 [5,1] [(.t 36),(.t 37)]),.f 39 3 11,.s 100006 1 39 38]
 (.reg [.m 40 0,.op 41 (.call 96 [5,0] [(.t 40),(.i 7)]),.f 42 3 12,.s 100007 1 42 41])))))
 (.q [.L 43 13 3,.s 100008 13 2 43]
 .ret))))⟩
theorem r_s_l11Draw {Te:TE} (c_s_l1Below:C_s_l1Below Te) (c_s_l9Draw:C_s_l9Draw Te) (c_s_l1Name:C_s_l1Name Te) (c_s_l1Once:C_s_l1Once Te) (c_s_l1Int:C_s_l1Int Te):∀ (c:CurV) (hc:c.ok),∃ r0,(∃ (r:RecV) (d:CurV),(r.In (2 ^ 20)∧d.ok)∧r0=(⟨[.agg (r.enc true)],[d.enc]⟩:Res))∧RunFn Te x_s_l11Draw [.ptr c.enc] r0:=by
 intro c hc
 refine some_of (Nat.le_of_ble_eq_true rfl) (by rfl) ?_
 have hz:=RowV.zero_in (2 ^ 20)
 have w1:IntKind.i64.wrap (1 + 0)=1:=rfl
 have w2:IntKind.i64.wrap (1 + 1)=2:=rfl
 have w3:IntKind.i64.wrap (1 + 2)=3:=rfl
 have w4:IntKind.i64.wrap (1 + 3)=4:=rfl
 simp -implicitDefEqProofs (maxSteps:=1000000) only [x_s_l11Draw,go_sem]
 repeat refine ⟨sc,?_⟩
 try exact sf
 obtain ⟨k,d,⟨⟨hk0,hk1,_⟩,hd⟩,ht⟩:=c_s_l1Below c 4 hc
 have hk4:=hk1 (by decide)
 rcases (show k=0∨k=1∨k=2∨k=3 by omega) with rfl | rfl | rfl | rfl
 ·obtain ⟨R,d,⟨hR,hd⟩,ht1⟩:=c_s_l9Draw d hd
  obtain ⟨b,d,hd,ht2⟩:=c_s_l1Once d 2 hd
  refine C1 (ht) w1 ?_
  refine C0 (ht1) ?_
  cases b
  ·refine C0 (ht2) ?_
   exact ⟨⟨1,R,⟨#[]⟩,0,0,0,0⟩,d,⟨⟨hR,Nat.zero_le _⟩,hd⟩,rfl⟩
  ·obtain ⟨who,d,⟨_,hd⟩,ht3⟩:=c_s_l1Below d 3 hd
   obtain ⟨seq,d,⟨_,hd⟩,ht4⟩:=c_s_l1Int d [0,1,2,65535] hd (by decide)
   obtain ⟨code,d,⟨_,hd⟩,ht5⟩:=c_s_l1Below d 7 hd
   refine C0 (ht2) ?_
   refine C0 (ht3) ?_
   refine C0 (ht4) ?_
   refine C0 (ht5) ?_
   exact ⟨⟨1,R,⟨#[]⟩,0,IntKind.i64.wrap (1 + who),seq,code⟩,d,⟨⟨hR,Nat.zero_le _⟩,hd⟩,rfl⟩
 ·obtain ⟨key,d,⟨hkey,hd⟩,ht1⟩:=c_s_l1Name d hd
  have hk:key.size≤2 ^ 20:=by omega
  obtain ⟨b,d,hd,ht2⟩:=c_s_l1Once d 2 hd
  refine C1 (ht) w2 ?_
  refine C0 (ht1) ?_
  cases b
  ·refine C0 (ht2) ?_
   exact ⟨⟨2,RowV.zero,key,0,0,0,0⟩,d,⟨⟨hz,hk⟩,hd⟩,rfl⟩
  ·obtain ⟨who,d,⟨_,hd⟩,ht3⟩:=c_s_l1Below d 3 hd
   obtain ⟨seq,d,⟨_,hd⟩,ht4⟩:=c_s_l1Int d [0,1,2,65535] hd (by decide)
   obtain ⟨code,d,⟨_,hd⟩,ht5⟩:=c_s_l1Below d 7 hd
   refine C0 (ht2) ?_
   refine C0 (ht3) ?_
   refine C0 (ht4) ?_
   refine C0 (ht5) ?_
   exact ⟨⟨2,RowV.zero,key,0,IntKind.i64.wrap (1 + who),seq,code⟩,d,⟨⟨hz,hk⟩,hd⟩,rfl⟩
 ·obtain ⟨n,d,⟨_,hd⟩,ht1⟩:=c_s_l1Below d 8 hd
  obtain ⟨b,d,hd,ht2⟩:=c_s_l1Once d 2 hd
  refine C1 (ht) w3 ?_
  refine C0 (ht1) ?_
  cases b
  ·refine C0 (ht2) ?_
   exact ⟨⟨3,RowV.zero,⟨#[]⟩,n,0,0,0⟩,d,⟨⟨hz,Nat.zero_le _⟩,hd⟩,rfl⟩
  ·obtain ⟨who,d,⟨_,hd⟩,ht3⟩:=c_s_l1Below d 3 hd
   obtain ⟨seq,d,⟨_,hd⟩,ht4⟩:=c_s_l1Int d [0,1,2,65535] hd (by decide)
   obtain ⟨code,d,⟨_,hd⟩,ht5⟩:=c_s_l1Below d 7 hd
   refine C0 (ht2) ?_
   refine C0 (ht3) ?_
   refine C0 (ht4) ?_
   refine C0 (ht5) ?_
   exact ⟨⟨3,RowV.zero,⟨#[]⟩,n,IntKind.i64.wrap (1 + who),seq,code⟩,d,⟨⟨hz,Nat.zero_le _⟩,hd⟩,rfl⟩
 ·obtain ⟨who,d,⟨_,hd⟩,ht3⟩:=c_s_l1Below d 3 hd
  obtain ⟨seq,d,⟨_,hd⟩,ht4⟩:=c_s_l1Int d [0,1,2,65535] hd (by decide)
  obtain ⟨code,d,⟨_,hd⟩,ht5⟩:=c_s_l1Below d 7 hd
  refine C1 (ht) w4 ?_
  refine C0 (ht3) ?_
  refine C0 (ht4) ?_
  refine C0 (ht5) ?_
  exact ⟨⟨4,RowV.zero,⟨#[]⟩,0,IntKind.i64.wrap (1 + who),seq,code⟩,d,⟨⟨hz,Nat.zero_le _⟩,hd⟩,rfl⟩
def x_i_within:FnX:=⟨15,[.tmp 6],
  .q [.F 6]
 (.q [.m 7 0,.m 8 1,.b 9 .geq 7 8,.m 10 9,.y 10 (.m 11 0),.y 10 (.m 12 2),.y 10 (.b 13 .leq 11 12),.a 14 10 13,.m 6 14]
 .ret)⟩
theorem r_i_within {Te:TE}:C_i_within (RF Te x_i_within):=by
 intro n a b
 refine run0 ?_
 simp -implicitDefEqProofs (maxSteps:=1000000) only [x_i_within,go_sem]
 refine bif_cases (fun h=>?_) (fun h=>?_) <;> simp -implicitDefEqProofs (maxSteps:=1000000) only [h,go_sem,win]
def x_s_l1In:FnX:=⟨15,[.tmp 6],
  .q [.F 6]
 (.q [.m 7 0,.m 8 1,.b 9 .geq 7 8,.m 10 9,.y 10 (.m 11 0),.y 10 (.m 12 2),.y 10 (.b 13 .leq 11 12),.a 14 10 13,.m 6 14]
 .ret)⟩
theorem r_s_l1In {Te:TE}:C_s_l1In (RF Te x_s_l1In):=by
 intro n a b
 refine run0 ?_
 simp -implicitDefEqProofs (maxSteps:=1000000) only [x_s_l1In,go_sem]
 refine bif_cases (fun h=>?_) (fun h=>?_) <;> simp -implicitDefEqProofs (maxSteps:=1000000) only [h,go_sem,win]
def x_i_isWord:FnX:=⟨5,[.tmp 2],
  .q [.F 2]
 (.q [.m 3 0,.op 4 (.call 90 [0,0,0] [(.t 3),(.i 0),(.i 65535)]),.m 2 4]
 .ret)⟩
theorem r_i_isWord {Te:TE} (c_i_within:C_i_within Te):C_i_isWord (RF Te x_i_isWord):=by
 intro n
 refine run0 ?_
 simp -implicitDefEqProofs (maxSteps:=1000000) only [x_i_isWord,go_sem]
 exact D0 (c_i_within _ _ _)
def x_s_l1Word:FnX:=⟨5,[.tmp 2],
  .q [.F 2]
 (.q [.m 3 0,.op 4 (.call 120 [0,0,0] [(.t 3),(.i 0),(.i 65535)]),.m 2 4]
 .ret)⟩
theorem r_s_l1Word {Te:TE} (c_s_l1In:C_s_l1In Te):C_s_l1Word (RF Te x_s_l1Word):=by
 intro n
 refine run0 ?_
 simp -implicitDefEqProofs (maxSteps:=1000000) only [x_s_l1Word,go_sem]
 exact D0 (c_s_l1In _ _ _)
def x_s_l3Koi:FnX:=⟨28,[.tmp 2],
  .q [.i 2 0]
 (.q [.op 4 (.bslice 1 [(.i 1102),(.i 1072),(.i 1073),(.i 1094),(.i 1076),(.i 1077),(.i 1092),(.i 1075),(.i 1093),(.i 1080),(.i 1081),(.i 1082),(.i 1083),(.i 1084),(.i 1085),(.i 1086),(.i 1087),(.i 1103),(.i 1088),(.i 1089),(.i 1090),(.i 1091),(.i 1078),(.i 1074),(.i 1100),(.i 1099),(.i 1079),(.i 1096),(.i 1101),(.i 1097),(.i 1095),(.i 1098)]),.m 3 4]
 (.seq (.block 0 (.q [.m 6 0,.B 7 .geq 6 224,.m 5 7]
 (.cond 5 (.q [.m 8 3,.m 9 0,.B 10 .sub 9 224,.x 11 1 8 10,.l 12 11,.B 13 .sub 12 32,.m 2 13]
 .ret) (.q [.m 15 0,.B 16 .geq 15 192,.m 14 16]
 (.cond 14 (.q [.m 17 3,.m 18 0,.B 19 .sub 18 192,.x 20 1 17 19,.l 21 20,.m 2 21]
 .ret) (.q [.m 23 0,.B 24 .eql 23 163,.m 22 24]
 (.cond 22 (.q [.i 2 1105]
 .ret) (.q [.m 26 0,.B 27 .eql 26 179,.m 25 27]
 (.c 25 (.q [.i 2 1025]
 .ret))))))))))
 (.q [.i 2 (-1)]
 .ret)))⟩
theorem r_s_l3Koi {Te:TE}:C_s_l3Koi (RF Te x_s_l3Koi):=by
 intro b hb
 refine run0 ?_
 cases g1:decide (b≥224)
 ·cases g2:decide (b≥192)
  ·cases g3:(b==163)
   ·cases g4:(b==179)
    ·simp -implicitDefEqProofs (maxSteps:=1000000) only [x_s_l3Koi,go_sem,koi,g1,g2,g3,g4]
     repeat refine ⟨sc,?_⟩
     try exact sf
    ·simp -implicitDefEqProofs (maxSteps:=1000000) only [x_s_l3Koi,go_sem,koi,g1,g2,g3,g4]
     repeat refine ⟨sc,?_⟩
     try exact sf
   ·simp -implicitDefEqProofs (maxSteps:=1000000) only [x_s_l3Koi,go_sem,koi,g1,g2,g3]
    repeat refine ⟨sc,?_⟩
    try exact sf
  ·simp only [decide_eq_true_eq] at g2
   have e:IntKind.i64.wrap (b - 192)=b - 192:=IntWalk.i64_in _ (by omega)
   simp only [decide_eq_false_iff_not] at g1
   have hk:(b - 192).toNat < 32:=by omega
   have q1:=decide_eq_false g1
   have q2:=decide_eq_true g2
   simp -implicitDefEqProofs (maxSteps:=1000000) only [x_s_l3Koi,go_sem,koi,q1,q2,e,Nat.mul_one,List.getD_eq_getElem?_getD]
   repeat refine ⟨sc,?_⟩
   try exact sf
   try simp -implicitDefEqProofs (maxSteps:=1000000) only [go_sem,koi_row hk,q1,q2]
   repeat refine ⟨sc,?_⟩
   try exact sf
   try simp only [List.getD_eq_getElem?_getD]
 ·simp only [decide_eq_true_eq] at g1
  have e:IntKind.i64.wrap (b - 224)=b - 224:=IntWalk.i64_in _ (by omega)
  have hk:(b - 224).toNat < 32:=by omega
  have q1:=decide_eq_true g1
  have hv:=koi_in ⟨(b - 224).toNat,hk⟩
  have e2:IntKind.i64.wrap (koiL.getD (b - 224).toNat 0 - 32)=koiL.getD (b - 224).toNat 0 - 32:=IntWalk.i64_in _ (by simp only at hv; omega)
  simp -implicitDefEqProofs (maxSteps:=1000000) only [x_s_l3Koi,go_sem,koi,q1,e,Nat.mul_one,List.getD_eq_getElem?_getD]
  repeat refine ⟨sc,?_⟩
  try exact sf
  try simp -implicitDefEqProofs (maxSteps:=1000000) only [go_sem,koi_row hk,q1,e2]
  repeat refine ⟨sc,?_⟩
  try exact sf
  try simp only [List.getD_eq_getElem?_getD]
def x_i_winSign:FnX:=⟨12,[.tmp 2],
  .q [.i 2 0]
 (.q [.op 4 (.build [.i 0,.i 0,.i 0,.i 0,.i 0,.i 0,.i 0,.i 0,.i 0,.i 0,.i 0,.i 0,.i 0,.i 0,.i 0,.i 0,.i 0,.i 0,.i 0,.i 0,.i 0,.i 0,.i 0,.i 0,.i 0,.i 0,.i 0,.i 0,.i 0,.i 0,.i 0,.i 0] [(0,1,(.i 8364)),(1,1,(.i 0)),(2,1,(.i 8218)),(3,1,(.i 402)),(4,1,(.i 8222)),(5,1,(.i 8230)),(6,1,(.i 8224)),(7,1,(.i 8225)),(8,1,(.i 710)),(9,1,(.i 8240)),(10,1,(.i 352)),(11,1,(.i 8249)),(12,1,(.i 338)),(13,1,(.i 0)),(14,1,(.i 381)),(15,1,(.i 0)),(16,1,(.i 0)),(17,1,(.i 8216)),(18,1,(.i 8217)),(19,1,(.i 8220)),(20,1,(.i 8221)),(21,1,(.i 8226)),(22,1,(.i 8211)),(23,1,(.i 8212)),(24,1,(.i 732)),(25,1,(.i 8482)),(26,1,(.i 353)),(27,1,(.i 8250)),(28,1,(.i 339)),(29,1,(.i 0)),(30,1,(.i 382)),(31,1,(.i 376))]),.op 3 (.alloc [.i 0,.i 0,.i 0,.i 0,.i 0,.i 0,.i 0,.i 0,.i 0,.i 0,.i 0,.i 0,.i 0,.i 0,.i 0,.i 0,.i 0,.i 0,.i 0,.i 0,.i 0,.i 0,.i 0,.i 0,.i 0,.i 0,.i 0,.i 0,.i 0,.i 0,.i 0,.i 0]),.s 100001 32 3 4]
 (.seq (.q [.m 5 0,.B 6 .geq 5 160]
 (.c 6 (.q [.m 7 0,.m 2 7]
 .ret)))
 (.q [.m 8 0,.B 9 .sub 8 128,.op 10 (.aaddr 32 1 (.t 3) (.t 9)),.l 11 10,.m 2 11]
 .ret)))⟩
theorem r_i_winSign {Te:TE}:C_i_winSign (RF Te x_i_winSign):=by
 intro b hb
 refine run0 ?_
 cases g1:decide (b≥160)
 ·have e:IntKind.i64.wrap (b - 128)=b - 128:=IntWalk.i64_in _ (by omega)
  have hk:(b - 128).toNat < 32:=by simp only [decide_eq_false_iff_not] at g1; omega
  simp -implicitDefEqProofs (maxSteps:=1000000) only [x_i_winSign,go_sem,winB,g1,e,Nat.mul_one]
  repeat refine ⟨sc,?_⟩
  try exact sf
  try simp -implicitDefEqProofs (maxSteps:=1000000) only [go_sem,win_cel hk,g1]
  repeat refine ⟨sc,?_⟩
  try exact sf
 ·simp -implicitDefEqProofs (maxSteps:=1000000) only [x_i_winSign,go_sem,winB,g1]
  repeat refine ⟨sc,?_⟩
  try exact sf
def x_s_l3Win:FnX:=⟨13,[.tmp 2],
  .q [.i 2 0]
 (.q [.op 4 (.bslice 1 [(.i 8364),(.i (-1)),(.i 8218),(.i 402),(.i 8222),(.i 8230),(.i 8224),(.i 8225),(.i 710),(.i 8240),(.i 352),(.i 8249),(.i 338),(.i (-1)),(.i 381),(.i (-1)),(.i (-1)),(.i 8216),(.i 8217),(.i 8220),(.i 8221),(.i 8226),(.i 8211),(.i 8212),(.i 732),(.i 8482),(.i 353),(.i 8250),(.i 339),(.i (-1)),(.i 382),(.i 376)]),.m 3 4]
 (.seq (.q [.m 5 0,.B 6 .geq 5 160]
 (.c 6 (.q [.m 7 0,.m 2 7]
 .ret)))
 (.q [.m 8 3,.m 9 0,.B 10 .sub 9 128,.x 11 1 8 10,.l 12 11,.m 2 12]
 .ret)))⟩
theorem r_s_l3Win {Te:TE}:C_s_l3Win (RF Te x_s_l3Win):=by
 intro b hb
 refine run0 ?_
 cases g1:decide (b≥160)
 ·have e:IntKind.i64.wrap (b - 128)=b - 128:=IntWalk.i64_in _ (by omega)
  have hk:(b - 128).toNat < 32:=by simp only [decide_eq_false_iff_not] at g1; omega
  simp -implicitDefEqProofs (maxSteps:=1000000) only [x_s_l3Win,go_sem,winB,g1,e,Nat.mul_one,List.getD_eq_getElem?_getD]
  repeat refine ⟨sc,?_⟩
  try exact sf
  try simp -implicitDefEqProofs (maxSteps:=1000000) only [go_sem,win_row hk,g1]
  repeat refine ⟨sc,?_⟩
  try exact sf
  try simp only [List.getD_eq_getElem?_getD]
 ·simp -implicitDefEqProofs (maxSteps:=1000000) only [x_s_l3Win,go_sem,winB,g1]
  repeat refine ⟨sc,?_⟩
  try exact sf
def x_s_l11Who:FnX:=⟨32,[.tmp 2],
  .q [.v 1 0,.F 2]
 (.seq (.q [.f 3 1 10,.l 4 3,.B 5 .eql 4 0]
 (.c 5 (.q [.f 6 1 11,.l 7 6,.B 8 .eql 7 0,.m 9 8,.y 9 (.f 10 1 12),.y 9 (.l 11 10),.y 9 (.B 12 .eql 11 0),.a 13 9 12,.m 14 13,.y 14 (.f 15 1 0),.y 14 (.l 16 15),.y 14 (.B 17 .neq 16 4),.a 18 14 17,.m 2 18]
 .ret)))
 (.q [.f 19 1 10,.l 20 19,.op 21 (.call 120 [0,0,0] [(.t 20),(.i 1),(.i 9)]),.m 22 21,.y 22 (.f 23 1 11),.y 22 (.l 24 23),.y 22 (.c 25 161 [24]),.a 26 22 25,.m 27 26,.y 27 (.f 28 1 12),.y 27 (.l 29 28),.y 27 (.op 30 (.call 120 [0,0,0] [(.t 29),(.i 0),(.i 6)])),.a 31 27 30,.m 2 31]
 .ret))⟩
theorem r_s_l11Who {Te:TE} (c_s_l1In:C_s_l1In Te) (c_s_l1Word:C_s_l1Word Te):C_s_l11Who (RF Te x_s_l11Who):=by
 intro r
 refine X0 x_s_l11Who.eq_1 ?_
 cases g0:(r.Who==0)
 ·refine G1 g0 ?_
  refine C0 (c_s_l1In _ _ _) ?_
  cases g1:win r.Who 1 9
  ·try simp -implicitDefEqProofs (maxSteps:=1000000) only [go_sem,RecV.who,g0,g1]
   repeat refine ⟨sc,?_⟩
   try exact sf
  refine G0 ?_
  refine C0 (c_s_l1Word _) ?_
  cases g2:win r.Seq 0 65535
  ·try simp -implicitDefEqProofs (maxSteps:=1000000) only [go_sem,RecV.who,g0,g1,g2]
   repeat refine ⟨sc,?_⟩
   try exact sf
  refine G0 ?_
  refine .of (c_s_l1In _ _ _) ?_
  try simp -implicitDefEqProofs (maxSteps:=1000000) only [go_sem,RecV.who,g0,g1,g2]
  repeat refine ⟨sc,?_⟩
  try exact sf
 ·refine G1 g0 ?_
  cases g1:(r.Seq==0)
  ·try simp -implicitDefEqProofs (maxSteps:=1000000) only [go_sem,RecV.who,g0,g1]
   repeat refine ⟨sc,?_⟩
   try exact sf
  refine G1 g1 ?_
  cases g2:(r.Code==0)
  ·try simp -implicitDefEqProofs (maxSteps:=1000000) only [go_sem,RecV.who,g0,g1,g2]
   repeat refine ⟨sc,?_⟩
   try exact sf
  try simp -implicitDefEqProofs (maxSteps:=1000000) only [go_sem,RecV.who,g0,g1,g2]
  repeat refine ⟨sc,?_⟩
  try exact sf
def x_s_RecOk:FnX:=⟨48,[.tmp 2],
  .q [.v 1 0,.F 2]
 (.q [.f 6 1 1,.L 7 7 6,.c 8 334 [7],.m 3 8]
 (.q [.f 9 1 8,.l 10 9,.op 11 (.bin .eql (.t 10) (.k (.one (.pv (.string ⟨#[]⟩))))),.m 4 11]
 (.q [.f 12 1 9,.l 13 12,.B 14 .eql 13 0,.m 5 14]
 (.seq (.q [.f 15 1 0,.l 16 15]
 (.block 0 (.q [.B 18 .eql 16 1,.m 17 18]
 (.cond 17 (.reg [.f 19 1 1,.L 20 7 19,.c 21 289 [20],.m 3 21]) (.q [.B 23 .eql 16 2,.m 22 23]
 (.cond 22 (.reg [.f 24 1 8,.l 25 24,.c 26 101 [25],.m 4 26]) (.q [.B 28 .eql 16 3,.m 27 28]
 (.c 27 (.reg [.f 29 1 9,.l 30 29,.op 31 (.call 120 [0,0,0] [(.t 30),(.i 0),(.i 7)]),.m 5 31])))))))))
 (.q [.f 32 1 0,.l 33 32,.op 34 (.call 120 [0,0,0] [(.t 33),(.i 1),(.i 4)]),.m 35 34,.y 35 (.m 36 3),.a 37 35 36,.m 38 37,.y 38 (.m 39 4),.a 40 38 39,.m 41 40,.y 41 (.m 42 5),.a 43 41 42,.m 44 43,.y 44 (.L 45 13 1),.y 44 (.c 46 335 [45]),.a 47 44 46,.m 2 47]
 .ret)))))⟩
theorem r_s_RecOk {Te:TE} (c_s_l11NoRow:C_s_l11NoRow Te) (c_s_RowOk:C_s_RowOk Te) (c_s_NameOk:C_s_NameOk Te) (c_s_l1In:C_s_l1In Te) (c_s_l11Who:C_s_l11Who Te):C_s_RecOk (RF Te x_s_RecOk):=by
 intro r h
 refine run0 ?_
 have hR:=h.1
 have hK:=h.2
 simp -implicitDefEqProofs (maxSteps:=1000000) only [x_s_RecOk,go_sem,bytes_beq]
 repeat refine ⟨sc,?_⟩
 try exact sf
 refine .of (c_s_l11NoRow r.R) ?_
 try simp -implicitDefEqProofs (maxSteps:=1000000) only [go_sem,bytes_beq]
 repeat refine ⟨sc,?_⟩
 try exact sf
 cases gk:win r.Kind 1 4
 ·obtain ⟨k1,k2,k3,k4⟩:=kind_win gk
  refine G3 k1 k2 k3 ?_
  refine .of (c_s_l1In _ _ _) ?_
  try simp -implicitDefEqProofs (maxSteps:=1000000) only [go_sem,gk,RecV.ok,RecV.body,k1,k2,k3,k4]
  repeat refine ⟨sc,?_⟩
  try exact sf
 obtain ⟨kind,R,key,n,who,seq,code⟩:=r
 simp only at gk hR hK
 rcases win_kind gk with rfl | rfl | rfl | rfl
 ·skip
  refine G0 ?_
  refine C0 (c_s_RowOk R hR) ?_
  refine C1 (c_s_l1In _ _ _) gk ?_
  cases g1:R.ok
  ·try simp -implicitDefEqProofs (maxSteps:=1000000) only [go_sem,RecV.ok,RecV.body,g1]
   repeat refine ⟨sc,?_⟩
   try exact sf
  refine G0 ?_
  cases g2:decide (key=⟨#[]⟩)
  ·try simp -implicitDefEqProofs (maxSteps:=1000000) only [go_sem,RecV.ok,RecV.body,g1,g2]
   repeat refine ⟨sc,?_⟩
   try exact sf
  refine G0 ?_
  cases g3:(n==0)
  ·try simp -implicitDefEqProofs (maxSteps:=1000000) only [go_sem,RecV.ok,RecV.body,g1,g2,g3]
   repeat refine ⟨sc,?_⟩
   try exact sf
  refine G0 ?_
  refine .of (c_s_l11Who ⟨1,R,key,n,who,seq,code⟩) ?_
  try simp -implicitDefEqProofs (maxSteps:=1000000) only [go_sem,RecV.ok,RecV.body,g1,g2,g3]
  repeat refine ⟨sc,?_⟩
  try exact sf
 ·skip
  refine G0 ?_
  refine C0 (c_s_NameOk key hK) ?_
  refine C1 (c_s_l1In _ _ _) gk ?_
  cases g1:R.no
  ·try simp -implicitDefEqProofs (maxSteps:=1000000) only [go_sem,RecV.ok,RecV.body,g1]
   repeat refine ⟨sc,?_⟩
   try exact sf
  refine G0 ?_
  cases g2:nameOk key
  ·try simp -implicitDefEqProofs (maxSteps:=1000000) only [go_sem,RecV.ok,RecV.body,g1,g2]
   repeat refine ⟨sc,?_⟩
   try exact sf
  refine G0 ?_
  cases g3:(n==0)
  ·try simp -implicitDefEqProofs (maxSteps:=1000000) only [go_sem,RecV.ok,RecV.body,g1,g2,g3]
   repeat refine ⟨sc,?_⟩
   try exact sf
  refine G0 ?_
  refine .of (c_s_l11Who ⟨2,R,key,n,who,seq,code⟩) ?_
  try simp -implicitDefEqProofs (maxSteps:=1000000) only [go_sem,RecV.ok,RecV.body,g1,g2,g3]
  repeat refine ⟨sc,?_⟩
  try exact sf
 ·skip
  refine G0 ?_
  refine C0 (c_s_l1In _ _ _) ?_
  refine C1 (c_s_l1In _ _ _) gk ?_
  cases g1:R.no
  ·try simp -implicitDefEqProofs (maxSteps:=1000000) only [go_sem,RecV.ok,RecV.body,g1]
   repeat refine ⟨sc,?_⟩
   try exact sf
  refine G0 ?_
  cases g2:decide (key=⟨#[]⟩)
  ·try simp -implicitDefEqProofs (maxSteps:=1000000) only [go_sem,RecV.ok,RecV.body,g1,g2]
   repeat refine ⟨sc,?_⟩
   try exact sf
  refine G0 ?_
  cases g3:win n 0 7
  ·try simp -implicitDefEqProofs (maxSteps:=1000000) only [go_sem,RecV.ok,RecV.body,g1,g2,g3]
   repeat refine ⟨sc,?_⟩
   try exact sf
  refine G0 ?_
  refine .of (c_s_l11Who ⟨3,R,key,n,who,seq,code⟩) ?_
  try simp -implicitDefEqProofs (maxSteps:=1000000) only [go_sem,RecV.ok,RecV.body,g1,g2,g3]
  repeat refine ⟨sc,?_⟩
  try exact sf
 ·skip
  refine G0 ?_
  refine C1 (c_s_l1In _ _ _) gk ?_
  cases g1:R.no
  ·try simp -implicitDefEqProofs (maxSteps:=1000000) only [go_sem,RecV.ok,RecV.body,g1]
   repeat refine ⟨sc,?_⟩
   try exact sf
  refine G0 ?_
  cases g2:decide (key=⟨#[]⟩)
  ·try simp -implicitDefEqProofs (maxSteps:=1000000) only [go_sem,RecV.ok,RecV.body,g1,g2]
   repeat refine ⟨sc,?_⟩
   try exact sf
  refine G0 ?_
  cases g3:(n==0)
  ·try simp -implicitDefEqProofs (maxSteps:=1000000) only [go_sem,RecV.ok,RecV.body,g1,g2,g3]
   repeat refine ⟨sc,?_⟩
   try exact sf
  refine G0 ?_
  refine .of (c_s_l11Who ⟨4,R,key,n,who,seq,code⟩) ?_
  try simp -implicitDefEqProofs (maxSteps:=1000000) only [go_sem,RecV.ok,RecV.body,g1,g2,g3]
  repeat refine ⟨sc,?_⟩
  try exact sf
def x_i_isSet:FnX:=⟨5,[.tmp 2],
  .q [.F 2]
 (.q [.m 3 0,.op 4 (.call 90 [0,0,0] [(.t 3),(.i 0),(.i 5)]),.m 2 4]
 .ret)⟩
theorem r_i_isSet {Te:TE} (c_i_within:C_i_within Te):C_i_isSet (RF Te x_i_isSet):=by
 intro cs
 refine X0 x_i_isSet.eq_1 ?_
 exact D0 (c_i_within _ _ _)
def x_s_l5Cs:FnX:=⟨5,[.tmp 2],
  .q [.F 2]
 (.q [.m 3 0,.op 4 (.call 120 [0,0,0] [(.t 3),(.i 0),(.i 5)]),.m 2 4]
 .ret)⟩
theorem r_s_l5Cs {Te:TE} (c_s_l1In:C_s_l1In Te):C_s_l5Cs (RF Te x_s_l5Cs):=by
 intro cs
 refine X0 x_s_l5Cs.eq_1 ?_
 exact D0 (c_s_l1In _ _ _)
def x_i_signIn:FnX:=⟨42,[.tmp 6,.tmp 7,.tmp 8],
  .q [.i 6 0,.i 7 0,.F 8]
 (.seq (.q [.m 11 0]
 (.block 0 (.q [.B 13 .eql 11 0,.m 12 13]
 (.cond 12 (.q [.m 14 1,.m 15 2,.c 16 267 [14,15],.e 17 16 0,.e 18 16 1,.e 19 16 2,.m 6 17,.m 7 18,.m 8 19]
 .ret) (.q [.B 21 .eql 11 5,.m 20 21]
 (.c 20 (.q [.m 22 1,.m 23 2,.c 24 268 [22,23],.e 25 24 0,.e 26 24 1,.e 27 24 2,.m 6 25,.m 7 26,.m 8 27]
 .ret)))))))
 (.q [.m 29 0,.m 30 1,.m 31 2,.x 32 1 30 31,.l 33 32,.op 34 (.conv (.int .i64) (.t 33)),.c 35 269 [29,34],.m 28 35,.e 36 28 0,.e 37 28 1,.m 9 36,.m 10 37]
 (.q [.m 38 9,.m 39 2,.B 40 .add 39 1,.m 41 10,.m 6 38,.m 7 40,.m 8 41]
 .ret)))⟩
theorem r_i_signIn {Te:TE} (c_i_GetSign:C_i_GetSign Te) (c_i_EucSign:C_i_EucSign Te) (c_i_ByteSign:C_i_ByteSign Te):C_i_signIn (RF Te x_i_signIn):=by
 intro cs b i hb hi
 refine run0 ?_
 cases g0:(cs==0)
 ·have n0:¬ cs=0:=by simpa using g0
  cases g5:(cs==5)
  ·have n5:¬ cs=5:=by simpa using g5
   have e:signIn cs b i=((byteSign cs (byteN b i.toNat:Nat)).1,i + 1,(byteSign cs (byteN b i.toNat:Nat)).2):=by rw [signIn,if_neg n0,if_neg n5]
   have hk:i.toNat < b.length:=by omega
   have eb:b[i.toNat].toNat=byteN b i.toNat:=by
    simp only [byteN,List.getD_eq_getElem?_getD]
    rw [List.getElem?_eq_getElem hk]
    rfl
   have hlt:=byteN_lt b i.toNat
   have w1:IntKind.i64.wrap ((byteN b i.toNat:Nat):Int)=(byteN b i.toNat:Nat):=IntWalk.i64_in _ (by omega)
   have w2:IntKind.i64.wrap (i + 1)=i + 1:=IntWalk.i64_in _ (by omega)
   simp -implicitDefEqProofs (maxSteps:=1000000) only [x_i_signIn,go_sem,g0,g5,List.getElem?_eq_getElem hk,eb,w1]
   repeat refine ⟨sc,?_⟩
   try exact sf
   exact D2 (c_i_ByteSign _ _) w2 e
  ·have n5:cs=5:=eq_of_beq g5
   subst n5
   have e:signIn 5 b i=eucSign b i:=rfl
   simp -implicitDefEqProofs (maxSteps:=1000000) only [x_i_signIn,go_sem]
   repeat refine ⟨sc,?_⟩
   try exact sf
   exact D1 (c_i_EucSign b i hb) e
 ·have n0:cs=0:=eq_of_beq g0
  subst n0
  have e:signIn 0 b i=getSign b i:=rfl
  simp -implicitDefEqProofs (maxSteps:=1000000) only [x_i_signIn,go_sem]
  repeat refine ⟨sc,?_⟩
  try exact sf
  exact D1 (c_i_GetSign b i (by omega)) e
def x_s_l5Get:FnX:=⟨42,[.tmp 6,.tmp 7,.tmp 8],
  .q [.i 6 0,.i 7 0,.F 8]
 (.seq (.q [.m 11 0]
 (.block 0 (.q [.B 13 .eql 11 0,.m 12 13]
 (.cond 12 (.q [.m 14 1,.m 15 2,.c 16 272 [14,15],.e 17 16 0,.e 18 16 1,.e 19 16 2,.m 6 17,.m 7 18,.m 8 19]
 .ret) (.q [.B 21 .eql 11 5,.m 20 21]
 (.c 20 (.q [.m 22 1,.m 23 2,.c 24 273 [22,23],.e 25 24 0,.e 26 24 1,.e 27 24 2,.m 6 25,.m 7 26,.m 8 27]
 .ret)))))))
 (.q [.m 29 0,.m 30 1,.m 31 2,.x 32 1 30 31,.l 33 32,.op 34 (.conv (.int .i64) (.t 33)),.c 35 274 [29,34],.m 28 35,.e 36 28 0,.e 37 28 1,.m 9 36,.m 10 37]
 (.q [.m 38 9,.m 39 2,.B 40 .add 39 1,.m 41 10,.m 6 38,.m 7 40,.m 8 41]
 .ret)))⟩
theorem r_s_l5Get {Te:TE} (c_s_GetSign:C_s_GetSign Te) (c_s_EucSign:C_s_EucSign Te) (c_s_ByteSign:C_s_ByteSign Te):C_s_l5Get (RF Te x_s_l5Get):=by
 intro cs b i hb hi
 refine run0 ?_
 cases g0:(cs==0)
 ·have n0:¬ cs=0:=by simpa using g0
  cases g5:(cs==5)
  ·have n5:¬ cs=5:=by simpa using g5
   have e:signIn cs b i=((byteSign cs (byteN b i.toNat:Nat)).1,i + 1,(byteSign cs (byteN b i.toNat:Nat)).2):=by rw [signIn,if_neg n0,if_neg n5]
   have hk:i.toNat < b.length:=by omega
   have eb:b[i.toNat].toNat=byteN b i.toNat:=by
    simp only [byteN,List.getD_eq_getElem?_getD]
    rw [List.getElem?_eq_getElem hk]
    rfl
   have hlt:=byteN_lt b i.toNat
   have w1:IntKind.i64.wrap ((byteN b i.toNat:Nat):Int)=(byteN b i.toNat:Nat):=IntWalk.i64_in _ (by omega)
   have w2:IntKind.i64.wrap (i + 1)=i + 1:=IntWalk.i64_in _ (by omega)
   simp -implicitDefEqProofs (maxSteps:=1000000) only [x_s_l5Get,go_sem,g0,g5,List.getElem?_eq_getElem hk,eb,w1]
   repeat refine ⟨sc,?_⟩
   try exact sf
   exact D2 (c_s_ByteSign _ _) w2 e
  ·have n5:cs=5:=eq_of_beq g5
   subst n5
   have e:signIn 5 b i=eucSign b i:=rfl
   simp -implicitDefEqProofs (maxSteps:=1000000) only [x_s_l5Get,go_sem]
   repeat refine ⟨sc,?_⟩
   try exact sf
   exact D1 (c_s_EucSign b i hb) e
 ·have n0:cs=0:=eq_of_beq g0
  subst n0
  have e:signIn 0 b i=getSign b i:=rfl
  simp -implicitDefEqProofs (maxSteps:=1000000) only [x_s_l5Get,go_sem]
  repeat refine ⟨sc,?_⟩
  try exact sf
  exact D1 (c_s_GetSign b i (by omega)) e
def x_i_Decode:FnX:=⟨35,[.tmp 4,.tmp 5],
  .q [.op 4 (.mv (.k (.one (.pv (.string ⟨#[]⟩))))),.F 5]
 (.seq (.q [.m 11 0,.c 12 184 [11],.N 13 12]
 (.c 13 (.q [.op 4 (.mv (.k (.one (.pv (.string ⟨#[]⟩))))),.F 5]
 .ret)))
 (.q [.op 14 (.bslice 1 []),.m 6 14]
 (.seq (.q [.i 7 0]
 (.block 0 (.loop [0,1,6,7] (.seq (.q [.m 15 7,.m 16 1,.n 17 16,.b 18 .lss 15 17]
 (.cond 18 .skip (.exit 0)))
 (.block 1 (.q [.m 20 0,.m 21 1,.m 22 7,.c 23 185 [20,21,22],.m 19 23,.e 24 19 0,.e 25 19 1,.e 26 19 2,.m 8 24,.m 9 25,.m 10 26]
 (.seq (.q [.m 27 10,.N 28 27]
 (.c 28 (.q [.op 4 (.mv (.k (.one (.pv (.string ⟨#[]⟩))))),.F 5]
 .ret)))
 (.q [.m 29 6,.m 30 8,.c 31 186 [29,30],.m 6 31]
 (.reg [.m 32 9,.m 7 32])))))))))
 (.norm [6] (.q [.m 33 6,.op 34 (.conv .b2s (.t 33)),.m 4 34,.T 5]
 .ret)))))⟩
theorem r_i_Decode {Te:TE} (c_i_isSet:C_i_isSet Te) (c_i_signIn:C_i_signIn Te) (c_i_PutSign:C_i_PutSign Te):C_i_Decode (RF Te x_i_Decode):=by
 intro cs b hb
 cases g:win cs 0 5
 ·have e:decode cs b=(⟨#[]⟩,false):=by rw [decode,g]; rfl
  refine X0 x_i_Decode.eq_1 ?_
  exact D2 (c_i_isSet _) g e
 ·have e:decode cs b=decGo cs b b.length 0 []:=by rw [decode,g]; rfl
  rw [e]
  generalize hD:decGo cs b b.length 0 []=D
  refine X0 x_i_Decode.eq_1 ?_
  refine C1 (c_i_isSet _) g ?_
  refine loop_of (σ:=Nat×Nat×List UInt8) (fun x=>⟨[(0,.one (.pv (.int .i64 cs))),(1,.one (.ro 1 (b.map uR))),(6,.one (.rf 37 0 [] 1 0 x.2.2.length)),(7,.one (.pv (.int .i64 x.2.1)))],[],[(0,[iT cs]),(1,[slT false 1 uR b]),(37,[slT true 1 uR x.2.2])]⟩) (fun x=>x.2.1≤b.length∧b.length≤x.1 + x.2.1∧x.2.2.length≤4 * x.2.1∧decGo cs b x.1 x.2.1 x.2.2=D) (fun x=>b.length - x.2.1) (b.length,0,[]) ?_ ⟨Nat.zero_le _,Nat.le_refl _,Nat.zero_le _,hD⟩ ?_
  ·simp -implicitDefEqProofs (maxSteps:=1000000) only [go_sem]
   try rfl
  ·rintro ⟨fu,i,out⟩ ⟨hi,hf,ho,hd⟩
   simp only at hi hf ho hd
   cases q:decide ((i:Int) < (b.length:Int))
   ·have hq:¬ (i:Int) < (b.length:Int):=by simpa using q
    rw [dec_end hq] at hd
    subst hd
    refine G1 q ?_
    refine ⟨areBytes_uR out,?_⟩
    rw [bytesOf_uD]
    try rfl
   ·have hq:(i:Int) < (b.length:Int):=by simpa using q
    obtain ⟨f,rfl⟩:∃ f,fu=f + 1:=⟨fu - 1,by omega⟩
    have hs:=c_i_signIn cs b i (by omega) ⟨by omega,hq⟩
    cases g2:(signIn cs b i).2.2
    ·rw [dec_bad hq g2] at hd
     subst hd
     refine G1 q ?_
     exact D1 (hs) g2
    ·rw [dec_step hq g2] at hd
     have hn:=signIn_next ⟨by omega,hq⟩ g2
     generalize signIn cs b i=r at hs g2 hd hn
     obtain ⟨n,nx,ok⟩:=r
     simp only at hs g2 hd hn
     subst g2
     obtain ⟨j,rfl⟩:∃ j:Nat,nx=j:=⟨nx.toNat,by omega⟩
     have hl:=putSign_len out n
     refine G1 q ?_
     refine C0 (hs) ?_
     refine C0 (c_i_PutSign out n (by omega)) ?_
     exact ⟨(f,j,putSign out n),rfl,⟨by simp only; omega,by simp only; omega,by simp only; omega,hd⟩,by simp only; omega⟩
def x_s_PutRow:FnX:=⟨38,[.tmp 4],
  .q [.v 3 1,.op 4 (.mv (.k (.one (.nils 1))))]
 (.q [.op 6 (.bslice 1 []),.m 7 0,.op 8 (.app 1 1 (.t 6) (.t 7)),.m 5 8]
 (.seq (.q [.L 9 7 3,.c 10 289 [9],.N 11 10]
 (.c 11 (.q [.m 12 5,.m 4 12]
 .ret)))
 (.seq (.draw [.m 13 5,.f 14 3 0,.l 15 14,.c 16 284 [13,15],.f 17 3 5,.l 18 17,.op 19 (.conv (.int .u8) (.t 18)),.f 20 3 6,.l 21 20,.c 22 336 [21],.op 23 (.bslice 1 [(.t 19),(.t 22)]),.op 24 (.app 1 1 (.t 16) (.t 23)),.m 5 24] [[],[],[1],[0,2],[],[4],[5],[],[7],[8,3],[6,9],[3,10,9],[11,11,0,1,2,3,4,5,6,7,8,9,10,11]])
 (.seq (.q [.L 25 7 3,.c 26 291 [25]]
 (.c 26 (.reg [.m 27 5,.f 28 3 1,.L 29 2 28,.op 30 (.call 337 [1,0] [(.t 27),(.t 29)]),.m 5 30])))
 (.seq (.q [.L 31 7 3,.c 32 196 [31]]
 (.c 32 (.reg [.m 33 5,.f 34 3 3,.L 35 2 34,.op 36 (.call 337 [1,0] [(.t 33),(.t 35)]),.m 5 36])))
 (.q [.m 37 5,.m 4 37]
 .ret))))))⟩
theorem r_s_PutRow {Te:TE} (c_s_RowOk:C_s_RowOk Te) (c_s_PutText:C_s_PutText Te) (c_s_l11Bit:C_s_l11Bit Te) (c_s_l9Old:C_s_l9Old Te) (c_s_l11Cell:C_s_l11Cell Te) (c_s_l9New:C_s_l9New Te):C_s_PutRow (RF Te x_s_PutRow):=by
 intro b r hb h
 obtain ⟨h1,h2,h3⟩:=h
 have l0:=putText_len b r.Key
 have l1:=putRow1_len b r
 have l2:=putRow2_len b r
 refine X0 x_s_PutRow.eq_1 ?_
 refine C0 (c_s_RowOk r ⟨h1,h2,h3⟩) ?_
 cases g:r.ok
 ·try simp -implicitDefEqProofs (maxSteps:=1000000) only [go_sem,putRow,g,if_false,reduceCtorEq]
  repeat refine ⟨sc,?_⟩
  try exact sf
 have ep:putRow b r=putRow3 b r:=if_pos g
 refine G0 ?_
 refine C0 (c_s_PutText b r.Key (by omega) h1) ?_
 refine .of (c_s_l11Bit r.Aside) ?_
 try simp -implicitDefEqProofs (maxSteps:=1000000) only [go_sem,mkU_wrap,app2B,take2B]
 repeat refine ⟨sc,?_⟩
 try exact sf
 have e1:putText b r.Key++[mkU r.Has,bif r.Aside then 1 else 0]=putRow1 b r:=rfl
 have e2:(putText b r.Key).length + 2=(putRow1 b r).length:=by rw [putRow1,List.length_append]; rfl
 simp only [e1,e2]
 have gw:=win13 (rowOk_win g)
 refine C0 (c_s_l9Old r gw) ?_
 by_cases q2:r.Has=2
 ·have k2:decide (r.Has≠2)=false:=by simp only [ne_eq,q2,not_true_eq_false,decide_false]
  have k1:decide (r.Has≠1)=true:=decide_eq_true (by omega)
  have e3:putRow2 b r=putRow1 b r:=if_pos q2
  have e4:putRow3 b r=putCell (putRow1 b r) r.New:=by rw [putRow3,if_neg (by omega),e3]
  refine G1 k2 ?_
  refine C1 (c_s_l9New r gw) k1 ?_
  exact D2 (c_s_l11Cell (putRow1 b r) r.New (by omega) h3) ep e4
 ·have k2:decide (r.Has≠2)=true:=decide_eq_true q2
  have e3:putRow2 b r=putCell (putRow1 b r) r.Old:=if_neg q2
  have tt:=c_s_l11Cell (putRow1 b r) r.Old (by omega) h2
  rw [← e3] at tt
  refine G1 k2 ?_
  refine C0 (tt) ?_
  refine C0 (c_s_l9New r gw) ?_
  by_cases q1:r.Has=1
  ·have k1:decide (r.Has≠1)=false:=by simp only [ne_eq,q1,not_true_eq_false,decide_false]
   have e4:putRow3 b r=putRow2 b r:=if_pos q1
   exact F3 k1 ep e4
  ·have k1:decide (r.Has≠1)=true:=decide_eq_true q1
   have e4:putRow3 b r=putCell (putRow2 b r) r.New:=if_neg q1
   refine G1 k1 ?_
   exact D2 (c_s_l11Cell (putRow2 b r) r.New (by omega) h3) ep e4
def x_s_BackRow:FnX:=⟨24,[.cell 2 (some 7)],
  .q [.v 1 0,.op 2 (.alloc [.e,.i 0,.nils 1,.i 0,.nils 1,.i 0,.F])]
 (.q [.L 4 7 1,.c 5 288 [4],.op 3 (.alloc [.e,.i 0,.nils 1,.i 0,.nils 1,.i 0,.F]),.s 100001 7 3 5]
 (.seq (.q [.L 6 7 1,.c 7 289 [6],.N 8 7,.m 9 8,.z 9 (.L 10 7 1),.z 9 (.c 11 196 [10]),.z 9 (.N 12 11),.r 13 9 12]
 (.c 13 (.q [.L 14 7 3,.s 100002 7 2 14]
 .ret)))
 (.seq (.q [.L 15 7 1,.c 16 291 [15]]
 (.c 16 (.q [.f 17 1 0,.l 18 17,.f 19 3 1,.L 20 2 19,.op 21 (.build [.e,.i 0,.nils 1,.i 0,.nils 1,.i 0,.F] [(0,1,(.t 18)),(1,2,(.t 20)),(5,1,(.i 1))]),.s 100003 7 2 21]
 .ret)))
 (.q [.f 22 3 6,⟨none,none,100004,.store 1 (.t 22) .T⟩]
 (.q [.L 23 7 3,.s 100005 7 2 23]
 .ret)))))⟩
theorem r_s_BackRow {Te:TE} (c_s_l9Copy:C_s_l9Copy Te) (c_s_RowOk:C_s_RowOk Te) (c_s_l9New:C_s_l9New Te) (c_s_l9Old:C_s_l9Old Te):C_s_BackRow (RF Te x_s_BackRow):=by
 intro r h
 have hL:=h.len (by decide)
 refine X0 x_s_BackRow.eq_1 ?_
 refine C0 (c_s_l9Copy r hL) ?_
 refine C0 (c_s_RowOk r (h.mono (by decide))) ?_
 cases g1:r.ok
 ·have e:r.back=r:=by rw [RowV.back,g1]; rfl
  exact F1 e
 have h13:=rowOk_13 g1
 refine G0 ?_
 refine C0 (c_s_l9New r h13) ?_
 by_cases g2:r.Has=1
 ·have e:r.back=r:=by rw [RowV.back,g1,g2]; rfl
  have g5:decide (r.Has≠1)=false:=decide_eq_false (by simpa using g2)
  exact F2 g5 e
 have g5:decide (r.Has≠1)=true:=decide_eq_true g2
 refine G1 g5 ?_
 refine C0 (c_s_l9Old r h13) ?_
 by_cases g3:r.Has=2
 ·have e:r.back=⟨r.Key,r.Old,r.New,r.Has,true⟩:=by rw [RowV.back,g1,g3]; rfl
  have g6:decide (r.Has≠2)=false:=decide_eq_false (by simpa using g3)
  exact F2 g6 e
 ·have g4:r.Has=3:=by omega
  have e:r.back=⟨r.Key,r.Old,⟨0,[]⟩,1,false⟩:=by rw [RowV.back,g1,g4]; rfl
  have g6:decide (r.Has≠2)=true:=decide_eq_true g3
  exact F2 g6 e
def x_i_turnedRow:FnX:=⟨16,[.cell 4 (some 7)],
  .q [.v 3 1,.op 4 (.alloc [.e,.i 0,.nils 1,.i 0,.nils 1,.i 0,.F])]
 (.seq (.q [.m 5 0]
 (.block 0 (.q [.B 7 .eql 5 4,.m 6 7]
 (.cond 6 (.q [.L 8 7 3,.c 9 170 [8],.s 100001 7 4 9]
 .ret) (.q [.B 11 .eql 5 6,.m 10 11]
 (.c 10 (.q [.L 12 7 3,.c 13 171 [12],.s 100002 7 4 13]
 .ret)))))))
 (.q [.L 14 7 3,.c 15 172 [14],.s 100003 7 4 15]
 .ret))⟩
theorem r_i_turnedRow {Te:TE} (c_i_CutRow:C_i_CutRow Te) (c_i_BackRow:C_i_BackRow Te) (c_i_FillRow:C_i_FillRow Te):C_i_turnedRow (RF Te x_i_turnedRow):=by
 intro p r h
 refine run0 ?_
 simp -implicitDefEqProofs (maxSteps:=1000000) only [x_i_turnedRow,go_sem,turned]
 repeat refine ⟨sc,?_⟩
 try exact sf
 cases g4:(p==4)
 ·cases g6:(p==6)
  ·refine G2 g4 g6 ?_
   exact D0 (c_i_FillRow r h)
  ·refine G2 g4 g6 ?_
   exact D0 (c_i_BackRow r h)
 ·refine G1 g4 ?_
  exact D0 (c_i_CutRow r h)
def x_s_l15Turn:FnX:=⟨17,[.cell 4 (some 7)],
  .q [.v 3 1,.op 4 (.alloc [.e,.i 0,.nils 1,.i 0,.nils 1,.i 0,.F])]
 (.seq (.q [.m 5 0]
 (.block 0 (.seq (.q [.B 7 .eql 5 2,.m 6 7]
 (.cond 6 .skip (.reg [.B 8 .eql 5 3,.m 6 8])))
 (.cond 6 (.q [.L 9 7 3,.c 10 201 [9],.s 100001 7 4 10]
 .ret) (.q [.B 12 .eql 5 4,.m 11 12]
 (.c 11 (.q [.L 13 7 3,.c 14 202 [13],.s 100002 7 4 14]
 .ret)))))))
 (.q [.L 15 7 3,.c 16 203 [15],.s 100003 7 4 16]
 .ret))⟩
theorem r_s_l15Turn {Te:TE} (c_s_FillRow:C_s_FillRow Te) (c_s_CutRow:C_s_CutRow Te) (c_s_BackRow:C_s_BackRow Te):C_s_l15Turn (RF Te x_s_l15Turn):=by
 intro p r h hp
 refine run0 ?_
 rcases hp with rfl | rfl | rfl | rfl
 all_goals
  simp -implicitDefEqProofs (maxSteps:=1000000) only [x_s_l15Turn,go_sem,turned]
  repeat refine ⟨sc,?_⟩
  try exact sf
 ·exact D0 (c_s_FillRow r h)
 ·exact D0 (c_s_FillRow r h)
 ·exact D0 (c_s_CutRow r h)
 ·exact D0 (c_s_BackRow r h)
def x_s_CellOf:FnX:=⟨25,[.cell 4 (some 2),.tmp 5],
  .q [.op 4 (.alloc [.i 0,.nils 1]),.F 5]
 (.q [.m 9 0,.m 10 1,.c 11 182 [9,10],.m 8 11,.e 12 8 0,.e 13 8 1,.m 6 12,.m 7 13]
 (.seq (.q [.m 14 7,.N 15 14,.m 16 15,.z 16 (.m 17 6),.z 16 (.n 18 17),.z 16 (.B 19 .gtr 18 20),.r 20 16 19]
 (.c 20 (.q [.op 21 (.build [.i 0,.nils 1] []),.s 100001 2 4 21,.F 5]
 .ret)))
 (.q [.m 22 0,.m 23 6,.op 24 (.build [.i 0,.nils 1] [(0,1,(.t 22)),(1,1,(.t 23))]),.s 100002 2 4 24,.T 5]
 .ret)))⟩
theorem r_s_CellOf {Te:TE} (c_s_Encode:C_s_Encode Te):C_s_CellOf (RF Te x_s_CellOf):=by
 intro tag s hs
 have hl:=encode_len tag s
 refine X0 x_s_CellOf.eq_1 ?_
 refine C0 (c_s_Encode tag s hs) ?_
 cases g:(encode tag s).2
 ·have e:=cellOf_no g
  exact F2 g e
 cases g2:decide (((encode tag s).1.length:Int)≤20)
 ·have e:=cellOf_big g2
  have g3:decide (((encode tag s).1.length:Int) > 20)=true:=by simp only [decide_eq_false_iff_not] at g2; exact decide_eq_true (by omega)
  exact F3 g g3 e
 ·have e:=cellOf_yes g g2
  have g3:decide (((encode tag s).1.length:Int) > 20)=false:=by simp only [decide_eq_true_eq] at g2; exact decide_eq_false (by omega)
  exact F3 g g3 e
def x_i_Turn:FnX:=⟨29,[.cell 4 (some 2),.tmp 5],
  .q [.v 2 0,.op 4 (.alloc [.i 0,.nils 1]),.F 5]
 (.q [.L 10 2 2,.c 11 177 [10],.m 9 11,.e 12 9 0,.e 13 9 1,.m 6 12,.m 7 13]
 (.seq (.q [.m 14 7,.N 15 14]
 (.c 15 (.q [.L 16 2 2,.c 17 304 [16],.s 100001 2 4 17,.F 5]
 .ret)))
 (.q [.m 19 1,.m 20 6,.c 21 251 [19,20],.m 18 21,.e 22 18 0,.e 23 18 1,.op 8 (.alloc [.i 0,.nils 1]),.s 100002 2 8 22,.m 7 23]
 (.seq (.q [.m 24 7,.N 25 24]
 (.c 25 (.q [.L 26 2 2,.c 27 304 [26],.s 100003 2 4 27,.F 5]
 .ret)))
 (.q [.L 28 2 8,.s 100004 2 4 28,.T 5]
 .ret)))))⟩
theorem r_i_Turn {Te:TE} (c_i_CellText:C_i_CellText Te) (c_i_copyCell:C_i_copyCell Te) (c_i_CellOf:C_i_CellOf Te):C_i_Turn (RF Te x_i_Turn):=by
 intro c tag hc hs
 refine X0 x_i_Turn.eq_1 ?_
 refine C0 (c_i_CellText c) ?_
 cases g:c.text.2
 ·have e:=turn_no (tag:=tag) g
  refine G1 g ?_
  exact D1 (c_i_copyCell c hc) e
 refine G1 g ?_
 refine C0 (c_i_CellOf tag c.text.1 hs) ?_
 cases g2:(cellOf tag c.text.1).2
 ·have e:=turn_big (c:=c) g2
  refine G1 g2 ?_
  exact D1 (c_i_copyCell c hc) e
 ·have e:=turn_yes g g2
  exact F2 g2 e
def x_s_Turn:FnX:=⟨30,[.cell 4 (some 2),.tmp 5],
  .q [.v 2 0,.op 4 (.alloc [.i 0,.nils 1]),.F 5]
 (.q [.L 11 2 2,.c 12 197 [11],.m 10 12,.e 13 10 0,.e 14 10 1,.m 6 13,.m 7 14]
 (.q [.m 16 1,.m 17 6,.c 18 200 [16,17],.m 15 18,.e 19 15 0,.e 20 15 1,.op 8 (.alloc [.i 0,.nils 1]),.s 100001 2 8 19,.m 9 20]
 (.seq (.q [.m 21 7,.N 22 21,.m 23 22,.z 23 (.m 24 9),.z 23 (.N 25 24),.r 26 23 25]
 (.c 26 (.q [.L 27 2 2,.c 28 338 [27],.s 100002 2 4 28,.F 5]
 .ret)))
 (.q [.L 29 2 8,.s 100003 2 4 29,.T 5]
 .ret))))⟩
theorem r_s_Turn {Te:TE} (c_s_CellText:C_s_CellText Te) (c_s_CellOf:C_s_CellOf Te) (c_s_l8Copy:C_s_l8Copy Te):C_s_Turn (RF Te x_s_Turn):=by
 intro c tag hc hs
 refine X0 x_s_Turn.eq_1 ?_
 refine C0 (c_s_CellText c) ?_
 refine C0 (c_s_CellOf tag c.text.1 hs) ?_
 cases g:c.text.2
 ·have e:=turn_no (tag:=tag) g
  refine G1 g ?_
  exact D1 (c_s_l8Copy c hc) e
 cases g2:(cellOf tag c.text.1).2
 ·have e:=turn_big (c:=c) g2
  refine G2 g g2 ?_
  exact D1 (c_s_l8Copy c hc) e
 ·have e:=turn_yes g g2
  exact F3 g g2 e
def x_i_Walks:FnX:=⟨17,[.tmp 2],
  .q [.F 2]
 (.q [.m 3 0,.B 4 .eql 3 2,.m 5 4,.z 5 (.m 6 0),.z 5 (.B 7 .eql 6 3),.r 8 5 7,.m 9 8,.z 9 (.m 10 0),.z 9 (.B 11 .eql 10 4),.r 12 9 11,.m 13 12,.z 13 (.m 14 0),.z 13 (.B 15 .eql 14 6),.r 16 13 15,.m 2 16]
 .ret)⟩
theorem r_i_Walks {Te:TE}:C_i_Walks (RF Te x_i_Walks):=by
 intro p
 refine run0 ?_
 cases g1:(p==2)
 ·cases g2:(p==3)
  ·cases g3:(p==4) <;> simp -implicitDefEqProofs (maxSteps:=1000000) only [x_i_Walks,go_sem,g1,g2,g3,walks]
  ·simp -implicitDefEqProofs (maxSteps:=1000000) only [x_i_Walks,go_sem,g1,g2,walks]
 ·simp -implicitDefEqProofs (maxSteps:=1000000) only [x_i_Walks,go_sem,g1,walks]
def x_s_Walks:FnX:=⟨9,[.tmp 2],
  .q [.F 2]
 (.q [.m 3 0,.op 4 (.call 120 [0,0,0] [(.t 3),(.i 2),(.i 4)]),.m 5 4,.z 5 (.m 6 0),.z 5 (.B 7 .eql 6 6),.r 8 5 7,.m 2 8]
 .ret)⟩
theorem r_s_Walks {Te:TE} (c_s_l1In:C_s_l1In Te):C_s_Walks (RF Te x_s_Walks):=by
 intro p
 refine run0 ?_
 have key:walks p=(win p 2 4||(p==6)):=by
  simp only [walks,win]
  by_cases h2:p=2
  ·subst h2; rfl
  by_cases h3:p=3
  ·subst h3; rfl
  by_cases h4:p=4
  ·subst h4; rfl
  have:(decide (p≥2)&&decide (p≤4))=false:=by simp; omega
  simp [h2,h3,h4,this]
 simp -implicitDefEqProofs (maxSteps:=1000000) only [x_s_Walks,go_sem,key]
 refine .of (c_s_l1In _ _ _) ?_
 cases g1:win p 2 4 <;> simp -implicitDefEqProofs (maxSteps:=1000000) only [go_sem]
end Go.X

