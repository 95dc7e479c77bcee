/- Texts: CVe_2 CVr_2 CVzb CVzs_5 CVzu_2 CVg_3 CVi CVc CVy CVl_3 CK CUe. -/
import Derived.Test.YtmmjaijeeeilcaaGreatDoorD04
set_option linter.unusedVariables false
set_option linter.unusedSimpArgs false
namespace Go.X
set_option maxRecDepth 100000
set_option maxHeartbeats 8000000
def x_B6:FnX:=⟨89,[.tmp 2],
  .q [.v 1 0,.F 2]
 (.seq (.q [.f 9 1 0,.l 10 9,.c 11 98 [10],.N 12 11,.m 13 12,.z 13 (.f 14 1 5),.z 13 (.l 15 14),.z 13 (.op 16 (.call 90 [0,0,0] [(.t 15),(.i 1),(.i 3)])),.z 13 (.N 17 16),.r 18 13 17]
 (.c 18 (.q [.F 2]
 .ret)))
 (.q [.f 20 1 1,.L 21 2 20,.c 22 177 [21],.m 19 22,.e 23 19 0,.e 24 19 1,.m 3 23,.m 4 24]
 (.q [.f 26 1 3,.L 27 2 26,.c 28 177 [27],.m 25 28,.e 29 25 0,.e 30 25 1,.m 5 29,.m 6 30]
 (.q [.f 31 1 1,.L 32 2 31,.op 33 (.build [.i 0,.nils 1] []),.c 34 173 [32,33],.m 7 34]
 (.seq (.q [.f 35 1 5,.l 36 35,.B 37 .neq 36 2]
 (.c 37 (.reg [.f 38 1 1,.L 39 2 38,.c 40 261 [39],.m 41 40,.y 41 (.f 42 1 1),.y 41 (.f 43 42 0),.y 41 (.l 44 43),.y 41 (.B 45 .neq 44 0),.a 46 41 45,.m 47 46,.y 47 (.m 48 4),.y 47 (.m 49 48),.z 49 (.f 50 1 6),.z 49 (.l 51 50),.z 49 (.m 52 51),.y 52 (.f 53 1 5),.y 52 (.l 54 53),.y 52 (.B 55 .eql 54 1),.z 49 (.a 56 52 55),.y 47 (.r 57 49 56),.a 58 47 57,.m 7 58])))
 (.q [.f 59 1 3,.L 60 2 59,.op 61 (.build [.i 0,.nils 1] []),.c 62 173 [60,61],.m 8 62]
 (.seq (.q [.f 63 1 5,.l 64 63,.B 65 .neq 64 1]
 (.c 65 (.reg [.f 66 1 3,.f 67 66 0,.l 68 67,.B 69 .eql 68 0,.m 70 69,.y 70 (.m 71 6),.a 72 70 71,.m 8 72])))
 (.q [.m 73 7,.m 74 73,.y 74 (.m 75 8),.a 76 74 75,.m 77 76,.y 77 (.f 78 1 5),.y 77 (.l 79 78),.y 77 (.B 80 .neq 79 3),.y 77 (.m 81 80),.z 81 (.f 82 1 1),.z 81 (.L 83 2 82),.z 81 (.f 84 1 3),.z 81 (.L 85 2 84),.z 81 (.c 86 305 [83,85]),.y 77 (.r 87 81 86),.a 88 77 87,.m 2 88]
 .ret))))))))⟩
theorem r_B6 {Te:TE} (c_Am:C_Am Te) (c_Ch:C_Ch Te) (c_A7:C_A7 Te) (c_C9:C_C9 Te) (c_A6:C_A6 Te) (c_B8:C_B8 Te):C_B6 (RF Te x_B6):=by
 intro r h
 obtain ⟨hk,_⟩:=h
 refine X0 x_B6.eq_1 ?_
 refine C0 (c_Am r.Key hk) ?_
 cases g1:nameOk r.Key
 ·have e:=rowOk_name (r:=r) g1
  exact F1 e
 refine G0 ?_
 refine C0 (c_Ch _ _ _) ?_
 cases g2:win r.Has 1 3
 ·have e:=rowOk_has (r:=r) g2
  exact F1 e
 have h3:=win13 g2
 obtain ⟨key,old,new,has,aside⟩:=r
 simp only at h3 g1 hk
 clear g2
 rcases h3 with rfl | rfl | rfl
 ·skip
  have e:=rowOk_1 (o:=old) (n:=new) (a:=aside) g1
  refine G0 ?_
  refine C0 (c_A7 old) ?_
  refine C0 (c_A7 new) ?_
  refine .of (c_C9 old ⟨0,[]⟩) ?_
  try simp -implicitDefEqProofs (maxSteps:=1000000) only [go_sem,CellV.no]
  repeat refine ⟨sc,?_⟩
  try exact sf
  refine C0 (c_A6 old) ?_
  have fin0:∀ z,z=false→True:=fun _ _=>trivial
  cases o1:old.ok
  ·refine G1 o1 ?_
   refine .of (c_C9 new ⟨0,[]⟩) ?_
   try simp -implicitDefEqProofs (maxSteps:=1000000) only [go_sem,CellV.no,e,o1]
   repeat refine ⟨sc,?_⟩
   try exact sf
  ·cases o2:(old.Tag != 0)
   ·refine G2 o1 o2 ?_
    refine .of (c_C9 new ⟨0,[]⟩) ?_
    try simp -implicitDefEqProofs (maxSteps:=1000000) only [go_sem,CellV.no,e,o1,o2]
    repeat refine ⟨sc,?_⟩
    try exact sf
   ·cases o3:old.text.2
    ·cases aside
     ·refine G3 o1 o2 o3 ?_
      refine .of (c_C9 new ⟨0,[]⟩) ?_
      try simp -implicitDefEqProofs (maxSteps:=1000000) only [go_sem,CellV.no,e,o1,o2,o3]
      repeat refine ⟨sc,?_⟩
      try exact sf
     ·try simp -implicitDefEqProofs (maxSteps:=1000000) only [go_sem,o1,o2,o3,CellV.no]
      repeat refine ⟨sc,?_⟩
      try exact sf
      refine .of (c_C9 new ⟨0,[]⟩) ?_
      try simp -implicitDefEqProofs (maxSteps:=1000000) only [go_sem,CellV.no]
      repeat refine ⟨sc,?_⟩
      try exact sf
      cases n1:((new.Tag==0)&&decide (new.B=[]))
      ·try simp -implicitDefEqProofs (maxSteps:=1000000) only [go_sem,n1,CellV.no,e,o1,o2,o3]
       repeat refine ⟨sc,?_⟩
       try exact sf
      ·try simp -implicitDefEqProofs (maxSteps:=1000000) only [go_sem,n1,CellV.no,e,o1,o2,o3]
       repeat refine ⟨sc,?_⟩
       try exact sf
    ·try simp -implicitDefEqProofs (maxSteps:=1000000) only [go_sem,o1,o2,o3,CellV.no]
     repeat refine ⟨sc,?_⟩
     try exact sf
     refine .of (c_C9 new ⟨0,[]⟩) ?_
     try simp -implicitDefEqProofs (maxSteps:=1000000) only [go_sem,CellV.no]
     repeat refine ⟨sc,?_⟩
     try exact sf
     cases n1:((new.Tag==0)&&decide (new.B=[]))
     ·try simp -implicitDefEqProofs (maxSteps:=1000000) only [go_sem,n1,CellV.no,e,o1,o2,o3]
      repeat refine ⟨sc,?_⟩
      try exact sf
     ·try simp -implicitDefEqProofs (maxSteps:=1000000) only [go_sem,n1,CellV.no,e,o1,o2,o3]
      repeat refine ⟨sc,?_⟩
      try exact sf
 ·skip
  have e:=rowOk_2 (o:=old) (n:=new) (a:=aside) g1
  refine G0 ?_
  refine C0 (c_A7 old) ?_
  refine C0 (c_A7 new) ?_
  refine .of (c_C9 old ⟨0,[]⟩) ?_
  try simp -implicitDefEqProofs (maxSteps:=1000000) only [go_sem,CellV.no]
  repeat refine ⟨sc,?_⟩
  try exact sf
  refine .of (c_C9 new ⟨0,[]⟩) ?_
  try simp -implicitDefEqProofs (maxSteps:=1000000) only [go_sem,CellV.no]
  repeat refine ⟨sc,?_⟩
  try exact sf
  cases o1:((old.Tag==0)&&decide (old.B=[]))
  ·cases n1:(new.Tag==0)
   ·try simp -implicitDefEqProofs (maxSteps:=1000000) only [go_sem,o1,n1,e,CellV.no]
    repeat refine ⟨sc,?_⟩
    try exact sf
   ·try simp -implicitDefEqProofs (maxSteps:=1000000) only [go_sem,o1,n1,e,CellV.no]
    repeat refine ⟨sc,?_⟩
    try exact sf
  ·cases n1:(new.Tag==0)
   ·try simp -implicitDefEqProofs (maxSteps:=1000000) only [go_sem,o1,n1,e,CellV.no]
    repeat refine ⟨sc,?_⟩
    try exact sf
   ·cases n2:new.text.2
    ·try simp -implicitDefEqProofs (maxSteps:=1000000) only [go_sem,o1,n1,n2,e,CellV.no]
     repeat refine ⟨sc,?_⟩
     try exact sf
    ·try simp -implicitDefEqProofs (maxSteps:=1000000) only [go_sem,o1,n1,n2,e,CellV.no]
     repeat refine ⟨sc,?_⟩
     try exact sf
 ·skip
  have e:=rowOk_3 (o:=old) (n:=new) (a:=aside) g1
  refine G0 ?_
  refine C0 (c_A7 old) ?_
  refine C0 (c_A7 new) ?_
  refine .of (c_C9 old ⟨0,[]⟩) ?_
  try simp -implicitDefEqProofs (maxSteps:=1000000) only [go_sem,CellV.no]
  repeat refine ⟨sc,?_⟩
  try exact sf
  refine C0 (c_A6 old) ?_
  cases o1:old.ok
  ·refine G1 o1 ?_
   refine .of (c_C9 new ⟨0,[]⟩) ?_
   try simp -implicitDefEqProofs (maxSteps:=1000000) only [go_sem,CellV.no]
   repeat refine ⟨sc,?_⟩
   try exact sf
   cases n1:(new.Tag==0)
   ·try simp -implicitDefEqProofs (maxSteps:=1000000) only [go_sem,n1,CellV.no,e,o1]
    repeat refine ⟨sc,?_⟩
    try exact sf
   ·try simp -implicitDefEqProofs (maxSteps:=1000000) only [go_sem,n1,CellV.no,e,o1]
    repeat refine ⟨sc,?_⟩
    try exact sf
  ·cases o2:(old.Tag != 0)
   ·refine G2 o1 o2 ?_
    refine .of (c_C9 new ⟨0,[]⟩) ?_
    try simp -implicitDefEqProofs (maxSteps:=1000000) only [go_sem,CellV.no]
    repeat refine ⟨sc,?_⟩
    try exact sf
    cases n1:(new.Tag==0)
    ·try simp -implicitDefEqProofs (maxSteps:=1000000) only [go_sem,n1,CellV.no,e,o1,o2]
     repeat refine ⟨sc,?_⟩
     try exact sf
    ·try simp -implicitDefEqProofs (maxSteps:=1000000) only [go_sem,n1,CellV.no,e,o1,o2]
     repeat refine ⟨sc,?_⟩
     try exact sf
   ·cases o3:old.text.2
    ·cases aside
     ·try simp -implicitDefEqProofs (maxSteps:=1000000) only [go_sem,o1,o2,o3,CellV.no]
      repeat refine ⟨sc,?_⟩
      try exact sf
      refine .of (c_C9 new ⟨0,[]⟩) ?_
      try simp -implicitDefEqProofs (maxSteps:=1000000) only [go_sem,CellV.no]
      repeat refine ⟨sc,?_⟩
      try exact sf
      cases n1:(new.Tag==0)
      ·try simp -implicitDefEqProofs (maxSteps:=1000000) only [go_sem,n1,CellV.no,e,o1,o2,o3]
       repeat refine ⟨sc,?_⟩
       try exact sf
      ·try simp -implicitDefEqProofs (maxSteps:=1000000) only [go_sem,n1,CellV.no,e,o1,o2,o3]
       repeat refine ⟨sc,?_⟩
       try exact sf
     ·try simp -implicitDefEqProofs (maxSteps:=1000000) only [go_sem,o1,o2,o3,CellV.no]
      repeat refine ⟨sc,?_⟩
      try exact sf
      refine .of (c_C9 new ⟨0,[]⟩) ?_
      try simp -implicitDefEqProofs (maxSteps:=1000000) only [go_sem,CellV.no]
      repeat refine ⟨sc,?_⟩
      try exact sf
      cases n1:(new.Tag==0)
      ·try simp -implicitDefEqProofs (maxSteps:=1000000) only [go_sem,n1,CellV.no,e,o1,o2,o3]
       repeat refine ⟨sc,?_⟩
       try exact sf
      ·try simp -implicitDefEqProofs (maxSteps:=1000000) only [go_sem,n1,CellV.no,e,o1,o2,o3]
       repeat refine ⟨sc,?_⟩
       try exact sf
    ·try simp -implicitDefEqProofs (maxSteps:=1000000) only [go_sem,o1,o2,o3,CellV.no]
     repeat refine ⟨sc,?_⟩
     try exact sf
     refine .of (c_C9 new ⟨0,[]⟩) ?_
     try simp -implicitDefEqProofs (maxSteps:=1000000) only [go_sem,CellV.no]
     repeat refine ⟨sc,?_⟩
     try exact sf
     cases n1:(new.Tag==0)
     ·try simp -implicitDefEqProofs (maxSteps:=1000000) only [go_sem,n1,CellV.no,e,o1,o2,o3]
      repeat refine ⟨sc,?_⟩
      try exact sf
     ·cases n2:new.text.2
      ·try simp -implicitDefEqProofs (maxSteps:=1000000) only [go_sem,n1,n2,CellV.no,e,o1,o2,o3]
       repeat refine ⟨sc,?_⟩
       try exact sf
      ·try simp -implicitDefEqProofs (maxSteps:=1000000) only [go_sem,n1,n2,CellV.no]
       repeat refine ⟨sc,?_⟩
       try exact sf
       refine .of (c_B8 old new) ?_
       try simp -implicitDefEqProofs (maxSteps:=1000000) only [go_sem,e,o1,o2,o3,n1,n2]
       repeat refine ⟨sc,?_⟩
       try exact sf
def x_Er:FnX:=⟨55,[.tmp 4],
  .q [.v 3 1,.op 4 (.mv (.k (.one (.nils 7))))]
 (.q [.op 8 (.bslice 7 []),.m 5 8]
 (.q [.F 6]
 (.seq (.q [.i 7 0]
 (.block 0 (.loop [0,3,5,6,7] (.seq (.q [.m 9 7,.m 10 0,.n 11 10,.b 12 .lss 9 11]
 (.cond 12 .skip (.exit 0)))
 (.seq (.block 1 (.seq (.seq (.draw [.m 15 6,.N 16 15,.m 17 16,.y 17 (.m 18 0),.y 17 (.m 19 7),.y 17 (.x 20 7 18 19),.y 17 (.f 21 20 0),.y 17 (.l 22 21),.y 17 (.f 23 3 0),.y 17 (.l 24 23),.y 17 (.b 25 .geq 22 24),.a 26 17 25] [[],[0],[1],[2],[2],[3,4,2],[5,2],[6,2],[2],[8,2],[7,9,2],[2,10]])
 (.c 26 (.q [.m 27 5,.L 28 7 3,.c 29 288 [28],.op 30 (.bslice 7 [(.t 29)]),.op 31 (.app 7 96 (.t 27) (.t 30)),.m 5 31]
 (.reg [.T 6]))))
 (.seq (.draw [.m 32 0,.m 33 7,.x 34 7 32 33,.f 35 34 0,.l 36 35,.f 37 3 0,.l 38 37,.b 39 .neq 36 38] [[],[],[0,1],[2],[3],[],[5],[4,6]])
 (.c 39 (.reg [.m 40 5,.m 41 0,.m 42 7,.x 43 7 41 42,.L 44 7 43,.op 45 (.bslice 7 [(.t 44)]),.op 46 (.app 7 96 (.t 40) (.t 45)),.m 5 46])))))
 (.reg [.m 13 7,.B 14 .add 13 1,.m 7 14]))))))
 (.norm [3,5,6] (.seq (.q [.m 47 6,.N 48 47]
 (.c 48 (.reg [.m 49 5,.L 50 7 3,.c 51 288 [50],.op 52 (.bslice 7 [(.t 51)]),.op 53 (.app 7 96 (.t 49) (.t 52)),.m 5 53])))
 (.q [.m 54 5,.m 4 54]
 .ret))))))⟩
theorem r_Er {Te:TE} (c_Ge:C_Ge Te):C_Er (RF Te x_Er):=by
 intro l r h hr
 refine X0 x_Er.eq_1 ?_
 refine loop_of (σ:=Nat×List RowV×Bool) (fun x=>⟨[(0,.one (.rf 0 0 [] 7 0 l.length)),(3,.bp 3 0),(5,.one (.rf 57 0 [] 7 0 x.2.1.length)),(6,.one (.pv (.bool x.2.2))),(7,.one (.pv (.int .i64 x.1)))],[(3,[.pv (.string r.Key),.pv (.int .i64 r.Old.Tag),.ro 1 (r.Old.B.map uR),.pv (.int .i64 r.New.Tag),.ro 1 (r.New.B.map uR),.pv (.int .i64 r.Has),.pv (.bool r.Aside)])],[(0,[Tr.sl true 7 () (leftRows r l x.1)]),(1,r.enc false),(57,[slT true 7 (RowV.enc true) x.2.1])]⟩) (fun x=>x.1≤l.length∧x.2=(l.take x.1).foldl (insR r) ([],false)) (fun x=>l.length - x.1) (0,[],false) ?_ ⟨Nat.zero_le _,rfl⟩ ?_
 ·simp -implicitDefEqProofs (maxSteps:=1000000) only [go_sem,left_zero]
  try rfl
 ·rintro ⟨i,o,p⟩ ⟨hi,he⟩
  simp only at hi he
  have hol:o.length≤2 * l.length:=by
   have:=insR_le r (l.take i) ([],false)
   rw [← he] at this
   simp only [List.length_nil,List.length_take] at this
   omega
  have ea:=app1Rw o r
  have et:List.take (o.length + 1) (List.map (RowV.enc true) (o++[r]))=List.map (RowV.enc true) (o++[r]):=List.take_of_length_le (by simp)
  cases q:decide ((i:Int) < (l.length:Int))
  ·have k0:i=l.length:=by simp only [decide_eq_false_iff_not] at q; omega
   rw [k0,List.take_length] at he
   subst k0
   cases p
   ·have e:insRow l r=o++[r]:=by rw [insRow,← he]; rfl
    refine G1 q ?_
    exact D3 (c_Ge r hr) e ea et
   ·have e:insRow l r=o:=by rw [insRow,← he]; rfl
    exact F2 q e
  ·have k1:i < l.length:=by simp only [decide_eq_true_eq] at q; omega
   have es:=insR_step (r:=r) k1
   rw [← he] at es
   have eg:=left_get (r:=r) k1
   have ed:(leftRows r l i).getD i []=l[i].enc true:=by rw [List.getD_eq_getElem?_getD,eg]; rfl
   have el:=left_len r l i
   have ex:=left_set (r:=r) k1
   have e1:∀ X:List T,((leftRows r l i).set i X)[i]?=some X:=fun X=>List.getElem?_set_self (by rw [el]; exact k1)
   have e2:∀ X:List T,((leftRows r l i).set i X).getD i []=X:=fun X=>by rw [List.getD_eq_getElem?_getD,e1]; rfl
   have eb:=app1Rw o l[i]
   have ec:=app1Rw (o++[r]) l[i]
   cases g2:decide (l[i].Key=r.Key) <;> cases g1:Op.bytesLess l[i].Key.toList r.Key.toList <;> cases p
   all_goals
    simp only [insR,g1,g2,Bool.not_true,Bool.not_false,Bool.and_true,Bool.and_false,Bool.or_true,Bool.or_false,Bool.true_or,Bool.false_or,Bool.true_and,Bool.false_and,if_true,if_false,Bool.false_eq_true] at es
    simp only [leftR,g2,if_true,if_false,Bool.false_eq_true] at ex
    try simp -implicitDefEqProofs (maxSteps:=1000000) only [go_sem,q,g1,g2,eg,ed,el,ex,e1,e2,List.set_set,List.length_set,take_rows,take_all,ea,eb,ec,et]
    repeat refine ⟨sc,?_⟩
   all_goals try (refine .of (c_Ge r hr) ?_; try simp -implicitDefEqProofs (maxSteps:=1000000) only [go_sem,g1,g2,eg,ed,el,ex,e1,e2,List.set_set,List.length_set,take_rows,take_all,ea,eb,ec,et])
   all_goals
    repeat refine ⟨sc,?_⟩
   all_goals
    refine ⟨(i + 1,(l.take (i + 1)).foldl (insR r) ([],false)),?_,⟨k1,rfl⟩,by simp only; omega⟩
    rw [← es,IntWalk.i64_in _ (by omega)]
    try simp only [List.length_append]
    try rw [left_same k1 g2]
    rfl
def x_C7:FnX:=⟨46,[.cell 6 (some 13),.tmp 7],
  .q [.v 3 0,.op 6 (.alloc [.i 0,.e,.i 0,.nils 1,.i 0,.nils 1,.i 0,.F,.e,.i 0,.i 0,.i 0,.i 0]),.i 7 0]
 (.q [.f 11 3 0,.f 12 11 4,.f 13 12 1,.l 14 13,.m 15 1,.f 16 3 9,.l 17 16,.m 18 2,.c 19 167 [14,15,17,18],.m 10 19,.e 20 10 0,.e 21 10 1,.op 8 (.alloc [.e,.i 0,.nils 1,.i 0,.nils 1,.i 0,.F]),.s 100001 7 8 20,.m 9 21]
 (.seq (.q [.m 22 9,.B 23 .eql 22 0,.m 24 23,.y 24 (.f 25 3 0),.y 24 (.f 26 25 4),.y 24 (.L 27 3 26),.y 24 (.m 28 1),.y 24 (.c 29 87 [27,28]),.y 24 (.B 30 .lss 29 0),.a 31 24 30,.m 32 31,.y 32 (.f 33 3 0),.y 32 (.f 34 33 4),.y 32 (.f 35 34 0),.y 32 (.l 36 35),.y 32 (.n 37 36),.y 32 (.B 38 .eql 37 8),.a 39 32 38]
 (.c 39 (.reg [.i 9 5])))
 (.seq (.q [.m 40 9,.B 41 .neq 40 0]
 (.c 41 (.q [.op 42 (.build [.i 0,.e,.i 0,.nils 1,.i 0,.nils 1,.i 0,.F,.e,.i 0,.i 0,.i 0,.i 0] [(0,1,(.i 4))]),.m 43 9,.s 100002 13 6 42,.m 7 43]
 .ret)))
 (.q [.L 44 7 8,.op 45 (.build [.i 0,.e,.i 0,.nils 1,.i 0,.nils 1,.i 0,.F,.e,.i 0,.i 0,.i 0,.i 0] [(0,1,(.i 1)),(1,7,(.t 44))]),.s 100003 13 6 45,.i 7 0]
 .ret))))⟩
theorem r_C7 {Te:TE} (c_B5:C_B5 Te) (c_B3:C_B3 Te):C_C7 (RF Te x_C7):=by
 intro n key s hn hk hs
 refine X0 x_C7.eq_1 ?_
 refine C0 (c_B5 n.S.T.Phase key n.Cs s hk hs) ?_
 cases g1:((rowOf n.S.T.Phase key n.Cs s).2==0)
 ·have e:n.putCode key s=(rowOf n.S.T.Phase key n.Cs s).2:=by rw [NodeV.putCode,g1]; rfl
  have g2:((rowOf n.S.T.Phase key n.Cs s).2 != 0)=true:=by rw [bne_eq,g1]; rfl
  try simp -implicitDefEqProofs (maxSteps:=1000000) only [go_sem,g1,g2,e,putRecV,take_rows]
  repeat refine ⟨sc,?_⟩
  try exact sf
  try rfl
 ·have g0:(rowOf n.S.T.Phase key n.Cs s).2=0:=eq_of_beq g1
  refine G1 g1 ?_
  refine C0 (c_B3 n.S.T key hn) ?_
  cases g2:decide (rowAt n.S.T.Rows key < 0)
  ·have e:n.putCode key s=0:=by rw [NodeV.putCode,g1,g2]; exact g0
   try simp -implicitDefEqProofs (maxSteps:=1000000) only [go_sem,g0,g2,e,putRecV,recRowBy,take_rows]
   repeat refine ⟨sc,?_⟩
   try exact sf
   try rfl
  ·cases g3:((n.S.T.Rows.length:Int)==8)
   ·have e:n.putCode key s=0:=by rw [NodeV.putCode,g1,g2,g3]; exact g0
    try simp -implicitDefEqProofs (maxSteps:=1000000) only [go_sem,g0,g2,g3,e,putRecV,recRowBy,take_rows]
    repeat refine ⟨sc,?_⟩
    try exact sf
    try rfl
   ·have e:n.putCode key s=5:=by rw [NodeV.putCode,g1,g2,g3]; rfl
    try simp -implicitDefEqProofs (maxSteps:=1000000) only [go_sem,g2,g3,e,putRecV,recRowBy,take_rows]
    repeat refine ⟨sc,?_⟩
    try exact sf
    try rfl
def x_As:FnX:=⟨54,[.cell 10 (some 10),.tmp 11,.tmp 12],
  .q [.v 5 0,.op 10 (.alloc [.nils 1,.nils 2,.i 0,.F,.nils 7,.i 0,.nils 3,.i 0,.i 0,.i 0]),.i 11 0,.F 12]
 (.seq (.q [.L 16 10 5,.c 17 82 [16],.N 18 17,.m 19 18,.z 19 (.m 20 1),.z 19 (.m 21 2),.z 19 (.c 22 72 [20,21]),.z 19 (.N 23 22),.r 24 19 23]
 (.c 24 (.q [.L 25 10 5,.c 26 60 [25],.s 100001 10 10 26,.i 11 1,.F 12]
 .ret)))
 (.q [.L 28 10 5,.m 29 1,.m 30 2,.c 31 73 [28,29,30],.m 27 31,.e 32 27 0,.e 33 27 1,.m 13 32,.m 14 33]
 (.seq (.q [.m 34 14]
 (.c 34 (.q [.L 35 10 5,.c 36 60 [35],.m 37 13,.s 100002 10 10 36,.m 11 37,.F 12]
 .ret)))
 (.q [.L 39 10 5,.m 40 3,.m 41 4,.c 42 75 [39,40,41],.m 38 42,.e 43 38 0,.e 44 38 1,.op 15 (.alloc [.i 0,.e,.i 0,.nils 1,.i 0,.nils 1,.i 0,.F,.e,.i 0,.i 0,.i 0,.i 0]),.s 100003 13 15 43,.m 13 44]
 (.q [.L 45 10 5,.m 46 1,.m 47 2,.L 48 13 15,.m 49 13,.c 50 91 [45,46,47,48,49],.e 51 50 0,.e 52 50 1,.e 53 50 2,.s 100004 10 10 51,.m 11 52,.m 12 53]
 .ret)))))⟩
theorem r_As {Te:TE} (c_Bz:C_Bz Te) (c_C4:C_C4 Te) (c_Br:C_Br Te) (c_Bl:C_Bl Te) (c_C7:C_C7 Te) (c_Bo:C_Bo Te):C_As (RF Te x_As):=by
 intro n who seq key s hn hk hs
 have hL:=hn.len (by decide)
 refine X0 x_As.eq_1 ?_
 refine C0 (c_Bz n (hn.mono (by decide))) ?_
 cases g1:n.up
 ·have e:n.putIn who seq key s=(n,1,false):=by rw [NodeV.putIn,old_no (by rw [g1]; rfl)]; rfl
  refine G0 ?_
  exact D1 (c_Br n hL) e
 refine G0 ?_
 refine C0 (c_C4 _ _) ?_
 cases g2:(win who 1 9&&win seq 1 65535)
 ·have e:n.putIn who seq key s=(n,1,false):=by rw [NodeV.putIn,old_no (by rw [g1,g2]; rfl)]; rfl
  refine G1 g2 ?_
  exact D1 (c_Br n hL) e
 have eo:=old_yes g1 g2
 refine G1 g2 ?_
 refine .of (c_Bl n _ _ (by have:=hn.2.2; omega)) ?_
 try simp -implicitDefEqProofs (maxSteps:=1000000) only [go_sem]
 repeat refine ⟨sc,?_⟩
 try exact sf
 rw [← eo]
 cases g3:(n.old who seq).2
 rotate_left
 ·have e:n.putIn who seq key s=(n,(n.old who seq).1,false):=by rw [NodeV.putIn,g3]; rfl
  refine G1 g3 ?_
  exact D1 (c_Br n hL) e
 have e:n.putIn who seq key s=n.changed ((putRecV n key s).by who seq (n.putCode key s)):=by rw [NodeV.putIn,g3,putRec_by]; rfl
 refine G1 g3 ?_
 refine C0 (c_C7 n key s (by have:=hn.2.1.1; omega) hk hs) ?_
 exact D1 (c_Bo n who seq (putRecV n key s) (n.putCode key s) hn (putRec_in hk)) e
def x_F4:FnX:=⟨29,[.cell 4 (some 10),.tmp 5,.tmp 6],
  .q [.v 2 0,.v 3 1,.op 4 (.alloc [.nils 1,.nils 2,.i 0,.F,.nils 7,.i 0,.nils 3,.i 0,.i 0,.i 0]),.i 5 0,.F 6]
 (.q [.L 9 10 2,.c 10 65 [9],.op 7 (.alloc [.nils 1,.nils 2,.i 0,.F,.nils 7,.i 0,.nils 3,.i 0,.i 0,.i 0]),.s 100001 10 7 10]
 (.q [.f 11 3 12,.l 12 11,.m 8 12]
 (.seq (.q [.m 13 8,.B 14 .neq 13 0]
 (.c 14 (.reg [.f 15 3 10,.l 16 15,.f 17 3 11,.l 18 17,.f 19 3 12,.l 20 19,.op 21 (.build [.i 0,.e,.i 0,.nils 1,.i 0,.nils 1,.i 0,.F,.e,.i 0,.i 0,.i 0,.i 0] [(0,1,(.i 4)),(10,1,(.t 16)),(11,1,(.t 18)),(12,1,(.t 20))]),.s 100002 13 3 21])))
 (.seq (.q [.f 22 7 0,.L 23 13 3,.op 24 (.call 103 [11,0] [(.t 22),(.t 23)]),.N 25 24]
 (.c 25 (.q [.L 26 10 7,.s 100003 10 4 26,.i 5 5,.F 6]
 .ret)))
 (.q [.L 27 10 7,.m 28 8,.s 100004 10 4 27,.m 5 28,.T 6]
 .ret)))))⟩
theorem r_F4 {Te:TE} (c_F1:C_F1 Te) (c_Eu:C_Eu Te):C_F4 (RF Te x_F4):=by
 intro n r hu hn hr
 have hL:=hn.len (by decide)
 obtain ⟨k1,k2,_⟩:=up_ok hu
 refine X0 x_F4.eq_1 ?_
 refine C0 (c_F1 n hL) ?_
 cases g:(r.Code != 0)
 ·have e1:=told_self g
  refine G1 g ?_
  refine C0 (c_Eu n.S r k1 k2 hn.2 hr) ?_
  cases g2:(n.S.add r).2
  ·try simp -implicitDefEqProofs (maxSteps:=1000000) only [go_sem,g2,e1,NodeV.changed,NodeV.added,NodeV.enc,take_all,take_marks]
   repeat refine ⟨sc,?_⟩
   try exact sf
   try rfl
  ·try simp -implicitDefEqProofs (maxSteps:=1000000) only [go_sem,g2,e1,NodeV.changed,NodeV.added,NodeV.enc,take_all,take_marks]
   repeat refine ⟨sc,?_⟩
   try exact sf
   try rfl
 ·have e1:=told_who g
  have ec:r.told.Code=r.Code:=by rw [e1]; rfl
  refine G1 g ?_
  refine C0 (c_Eu n.S (recWho r.Who r.Seq r.Code) k1 k2 hn.2 (recWho_in _ _ _ _)) ?_
  cases g2:(n.S.add (recWho r.Who r.Seq r.Code)).2
  ·try simp -implicitDefEqProofs (maxSteps:=1000000) only [go_sem,g2,e1,NodeV.changed,NodeV.added,NodeV.enc,take_all,take_marks]
   repeat refine ⟨sc,?_⟩
   try exact sf
   try rfl
  ·try simp -implicitDefEqProofs (maxSteps:=1000000) only [go_sem,g2,e1,NodeV.changed,NodeV.added,NodeV.enc,take_all,take_marks]
   repeat refine ⟨sc,?_⟩
   try exact sf
   try rfl
def x_Em:FnX:=⟨64,[.cell 4 (some 3)],
  .q [.op 4 (.alloc [.nils 7,.i 0,.nils 3])]
 (.q [.m 7 0,.m 8 1,.op 9 (.call 319 [5,0] [(.t 7),(.t 8)]),.op 5 (.alloc [.nils 7,.i 0,.nils 3]),.s 100001 3 5 9]
 (.seq (.q [.m 10 0,.op 11 (.call 96 [5,0] [(.t 10),(.i 10)])]
 (.block 0 (.q [.B 13 .eql 11 0,.m 12 13]
 (.cond 12 (.draw [.f 14 5 0,.l 15 14,.m 16 0,.op 17 (.call 320 [5] [(.t 16)]),.op 18 (.bslice 7 [(.t 17)]),.op 19 (.app 7 96 (.t 15) (.t 18)),.f 20 5 0,.s 100002 1 20 19] [[],[0],[],[2],[3],[1,4,3],[0,1,2,3,4,5],[6,5,5,0,1,2,3,4,5]]) (.q [.B 22 .eql 11 1,.m 21 22]
 (.cond 21 (.reg [.m 23 0,.op 24 (.bslice 1 [(.i (-1)),(.i 7),(.i 8)]),.op 25 (.call 70 [5,1] [(.t 23),(.t 24)]),.f 26 5 1,.s 100003 1 26 25]) (.q [.B 28 .eql 11 2,.m 27 28]
 (.cond 27 (.draw [.f 29 5 2,.l 30 29,.m 31 0,.op 32 (.bslice 1 [(.i 0),(.i 1),(.i 9),(.i 10)]),.op 33 (.call 70 [5,1] [(.t 31),(.t 32)]),.m 34 0,.op 35 (.call 244 [5] [(.t 34)]),.m 36 0,.op 37 (.bslice 1 [(.i 0),(.i 6),(.i 7)]),.op 38 (.call 70 [5,1] [(.t 36),(.t 37)]),.op 39 (.build [.i 0,.i 0,.i 0] [(0,1,(.t 33)),(1,1,(.t 35)),(2,1,(.t 38))]),.op 40 (.bslice 3 [(.t 39)]),.op 41 (.app 3 24 (.t 30) (.t 40)),.f 42 5 2,.s 100004 1 42 41] [[],[0],[],[],[2,3],[],[5,4],[],[],[7,8,6],[4,6,9],[10],[1,11,9],[0,1,2,3,4,5,6,7,8,9,10,11,12],[13,12,12,0,1,2,3,4,5,6,7,8,9,10,11,12]]) (.q [.B 44 .eql 11 3,.m 43 44]
 (.c 43 (.q [.i 6 0]
 (.block 1 (.loop [4,5,6] (.seq (.q [.m 45 6,.B 46 .lss 45 7]
 (.cond 46 .skip (.exit 1)))
 (.seq (.block 2 (.reg [.f 49 5 0,.l 50 49,.m 51 6,.op 52 (.bin .add (.i 48) (.t 51)),.op 53 (.conv (.int .u8) (.t 52)),.op 54 (.bslice 1 [(.t 53)]),.op 55 (.conv .b2s (.t 54)),.op 56 (.bin .add (.k (.one (.pv (.string ⟨#[122]⟩)))) (.t 55)),.op 57 (.bslice 1 [(.k (.one (.pv (.int .u8 120))))]),.op 58 (.build [.i 0,.nils 1] [(1,1,(.t 57))]),.op 59 (.build [.e,.i 0,.nils 1,.i 0,.nils 1,.i 0,.F] [(0,1,(.t 56)),(3,2,(.t 58)),(5,1,(.i 2))]),.op 60 (.bslice 7 [(.t 59)]),.op 61 (.app 7 96 (.t 50) (.t 60)),.f 62 5 0,.s 100005 1 62 61]))
 (.reg [.m 47 6,.B 48 .add 47 1,.m 6 48]))))))))))))))))
 (.norm [4,5] (.q [.L 63 3 5,.s 100006 3 4 63]
 .ret))))⟩
theorem r_Em {Te:TE} (c_Eo:C_Eo Te) (c_Fk:C_Fk Te) (c_Gd:C_Gd Te) (c_Fp:C_Fp Te) (c_Fs:C_Fs Te):∀ (c:CurV) (hc:c.ok),∃ r0,(∃ (x:TabV) (d:CurV),(x.In (2 ^ 20)∧d.ok)∧r0=(⟨[.agg (x.enc true)],[d.enc,[iT 4]]⟩:Res))∧RunFn Te x_Em [.ptr c.enc,.one (iT 4)] r0:=by
 intro c hc
 refine some_of (Nat.le_of_ble_eq_true rfl) (by rfl) ?_
 have e:∀ j k:Int,k≠j→(k==j)=false:=fun j k h=>by simpa using h
 simp -implicitDefEqProofs (maxSteps:=1000000) only [x_Em,go_sem]
 repeat refine ⟨sc,?_⟩
 try exact sf
 obtain ⟨t,d0,⟨ht0,hd⟩,ht⟩:=c_Eo c hc
 have hm9:=marks_le ht0
 have h8:=tab_8 ht0
 obtain ⟨⟨hT1,hT2⟩,hT3⟩:=TabV.ok_in ht0
 refine C0 (ht) ?_
 obtain ⟨k,d,⟨_,hd⟩,ht⟩:=c_Fk d0 10 hd
 by_cases q0:k=0
 ·subst q0
  obtain ⟨r,d,⟨hr,hd⟩,ht1⟩:=c_Gd d hd
  have ea:=app1Row t.Rows r
  have et:=take1 (RowV.enc true) t.Rows r
  refine C0 (ht) ?_
  refine C2 (ht1) ea et ?_
  exact ⟨⟨t.Rows++[r],t.Phase,t.Marks⟩,d,⟨⟨rows_in1 (by omega) hT2 hr,hT3⟩,hd⟩,rfl⟩
 by_cases q1:k=1
 ·subst q1
  obtain ⟨r,d,⟨_,hd⟩,ht1⟩:=c_Fp d [-1,7,8] hd (by decide)
  refine C0 (ht) ?_
  refine C0 (ht1) ?_
  exact ⟨⟨t.Rows,r,t.Marks⟩,d,⟨⟨⟨hT1,hT2⟩,hT3⟩,hd⟩,rfl⟩
 by_cases q2:k=2
 ·subst q2
  obtain ⟨u,d,⟨_,hd⟩,ht1⟩:=c_Fp d [0,1,9,10] hd (by decide)
  obtain ⟨v,d,hd,ht2⟩:=c_Fs d hd
  obtain ⟨w,d,⟨_,hd⟩,ht3⟩:=c_Fp d [0,6,7] hd (by decide)
  have ea:=app1M t.Marks ⟨u,v,w⟩
  have et:=take1 MarkV.row t.Marks ⟨u,v,w⟩
  refine C0 (ht) ?_
  refine C0 (ht1) ?_
  refine C0 (ht2) ?_
  refine C2 (ht3) ea et ?_
  exact ⟨⟨t.Rows,t.Phase,t.Marks++[⟨u,v,w⟩]⟩,d,⟨⟨⟨hT1,hT2⟩,by simp only [List.length_append,List.length_cons,List.length_nil]; omega⟩,hd⟩,rfl⟩
 by_cases q3:k=3
 ·subst q3
  refine C0 (ht) ?_
  obtain ⟨E,hE⟩:∃ E:List Go.X.T,E=CurV.enc d0:=⟨_,rfl⟩
  rw [← hE]
  refine loop_of (σ:=Nat×List RowV×Bool) (fun x=>cond x.2.2 ⟨[(4,.bp 4 0),(5,.bp 5 0),(6,.one (.pv (.int .i64 x.1)))],[(0,[.ro 1 (d.b.map uR),.pv (.int .i64 d.i),.pv (.int .i64 d.h)]),(4,[.nils 7,.pv (.int .i64 0),.nils 3]),(5,[.rf 66 0 [] 7 0 x.2.1.length,.pv (.int .i64 t.Phase),.rf 66 2 [] 3 0 t.Marks.length])],[(0,c.enc),(1,[iT 4]),(66,slT true 7 (RowV.enc true) x.2.1::iT t.Phase::slT true 3 MarkV.row t.Marks::E)]⟩ ⟨[(4,.bp 4 0),(5,.bp 5 0),(6,.one (.pv (.int .i64 x.1)))],[(0,[.ro 1 (d.b.map uR),.pv (.int .i64 d.i),.pv (.int .i64 d.h)]),(4,[.nils 7,.pv (.int .i64 0),.nils 3]),(5,[.rf 66 0 [] 7 0 x.2.1.length,.pv (.int .i64 t.Phase),.rf 67 2 [] 3 0 t.Marks.length])],[(0,c.enc),(1,[iT 4]),(66,[slT true 7 (RowV.enc true) x.2.1]),(67,Tr.no ()::iT t.Phase::slT true 3 MarkV.row t.Marks::E)]⟩) (fun x=>x.1≤7∧x.2.1.length≤8 + x.1∧∀ y∈x.2.1,y.In (2 ^ 20)) (fun x=>7 - x.1) (0,t.Rows,true) ?_ ⟨Nat.zero_le _,h8,hT2⟩ ?_
  ·simp -implicitDefEqProofs (maxSteps:=1000000) only [go_sem]
   try rfl
  ·rintro ⟨i,l,b⟩ ⟨hi,hl,hI⟩
   simp only at hi hl hI
   cases q:decide ((i:Int) < 7)
   ·cases b
    ·refine G1 q ?_
     exact ⟨⟨l,t.Phase,t.Marks⟩,d,⟨⟨⟨by show l.length≤2 ^ 20; omega,hI⟩,hT3⟩,hd⟩,rfl⟩
    ·refine G1 q ?_
     exact ⟨⟨l,t.Phase,t.Marks⟩,d,⟨⟨⟨by show l.length≤2 ^ 20; omega,hI⟩,hT3⟩,hd⟩,rfl⟩
   ·have q':=q
    simp only [decide_eq_true_eq] at q'
    obtain ⟨K,hK,hs⟩:∃ K:ByteArray,(({ data:=#[122] }:ByteArray) ++ { data:=(bytesOf [[(Tr.pv (Value.int IntKind.u8 (IntKind.u8.wrap (IntKind.i64.wrap (48 + (i:Int))))):T)]]).toArray })=K∧K.size≤20:=⟨_,rfl,by rw [ByteArray.size_append]; exact (by decide:1 + 1≤20)⟩
    have ea:List.map (RowV.enc true) l++[[sT K,iT 0,Tr.sl true 1 () [],iT 0,Tr.sl true 1 () [[Tr.pv (Value.int IntKind.u8 120)]],iT 2,bT false]]=List.map (RowV.enc true) (l++[⟨K,⟨0,[]⟩,⟨0,[120]⟩,2,false⟩]):=by rw [List.map_append]; rfl
    have hx:(RowV.mk K ⟨0,[]⟩ ⟨0,[120]⟩ 2 false).In (2 ^ 20):=⟨Nat.le_trans hs (by decide),Nat.zero_le _,by show 1≤2 ^ 20; decide⟩
    have hx2:=(rows_in1 (l:=l) (n:=2 ^ 20) (by omega) hI hx).2
    have w2:IntKind.i64.wrap ((i:Int) + 1)=((i + 1:Nat):Int):=by rw [IntWalk.i64_in _ (by omega)]; rfl
    have xl:(l++[RowV.mk K ⟨0,[]⟩ ⟨0,[120]⟩ 2 false]).length=l.length + 1:=by simp only [List.length_append,List.length_cons,List.length_nil]
    cases b
    ·refine G4 q hK ea w2 ?_
     exact ⟨(i + 1,l++[⟨K,⟨0,[]⟩,⟨0,[120]⟩,2,false⟩],false),by rw [← xl,ea]; rfl,⟨by simp only; omega,by simp only [xl]; omega,hx2⟩,by simp only; omega⟩
    ·refine G4 q hK ea w2 ?_
     exact ⟨(i + 1,l++[⟨K,⟨0,[]⟩,⟨0,[120]⟩,2,false⟩],false),by rw [← xl,ea]; rfl,⟨by simp only; omega,by simp only [xl]; omega,hx2⟩,by simp only; omega⟩
 refine .of (ht) ?_
 try simp -implicitDefEqProofs (maxSteps:=1000000) only [go_sem,e 0 k q0,e 1 k q1,e 2 k q2,e 3 k q3]
 repeat refine ⟨sc,?_⟩
 try exact sf
 exact ⟨t,d,⟨⟨⟨hT1,hT2⟩,hT3⟩,hd⟩,rfl⟩
def x_Dc:FnX:=⟨95,[.tmp 4],
  .q [.v 2 0,.v 3 1,.op 4 (.mv (.k (.one (.nils 6))))]
 (.q [.op 15 (.bslice 6 []),.m 5 15]
 (.seq (.q [.L 16 8 3,.c 17 63 [16],.N 18 17,.m 19 18,.z 19 (.f 20 3 2),.z 19 (.l 21 20),.z 19 (.B 22 .lss 21 3),.r 23 19 22,.m 24 23,.z 24 (.L 25 10 2),.z 24 (.c 26 64 [25]),.z 24 (.N 27 26),.r 28 24 27,.m 29 28,.z 29 (.f 30 3 0),.z 29 (.l 31 30),.z 29 (.B 32 .neq 31 3),.z 29 (.m 33 32),.y 33 (.f 34 3 0),.y 33 (.l 35 34),.y 33 (.B 36 .neq 35 4),.z 29 (.a 37 33 36),.r 38 29 37,.m 39 38,.z 39 (.L 40 10 2),.z 39 (.L 41 8 3),.z 39 (.c 42 77 [40,41]),.r 43 39 42]
 (.c 43 (.q [.m 44 5,.m 4 44]
 .ret)))
 (.q [.L 46 10 2,.L 47 8 3,.c 48 12 [46,47],.m 45 48,.e 49 45 0,.e 50 45 1,.e 51 45 2,.op 6 (.alloc [.nils 1,.nils 2,.i 0,.F,.nils 7,.i 0,.nils 3,.i 0,.i 0,.i 0]),.s 100001 10 6 49,.m 7 50,.m 8 51]
 (.q [.f 53 2 0,.f 54 53 4,.L 55 3 54,.f 56 3 1,.l 57 56,.c 58 78 [55,57],.m 52 58,.e 59 52 0,.e 60 52 1,.op 9 (.alloc [.i 0,.i 0,.i 0]),.s 100002 3 9 59,.m 10 60]
 (.seq (.q [.m 61 8,.n 62 61,.B 63 .gtr 62 0,.m 64 63,.z 64 (.m 65 10),.z 64 (.m 66 65),.y 66 (.f 67 9 1),.y 66 (.l 68 67),.y 66 (.f 69 3 3),.y 66 (.l 70 69),.y 66 (.b 71 .eql 68 70),.z 64 (.a 72 66 71),.r 73 64 72]
 (.c 73 (.q [.m 74 5,.m 4 74]
 .ret)))
 (.q [.L 75 10 2,.c 76 65 [75],.op 11 (.alloc [.nils 1,.nils 2,.i 0,.F,.nils 7,.i 0,.nils 3,.i 0,.i 0,.i 0]),.s 100003 10 11 76]
 (.q [.f 77 11 0,.f 78 77 0,.f 79 78 2,⟨none,none,100004,.store 1 (.t 79) (.i (-1))⟩]
 (.q [.L 81 10 11,.L 82 8 3,.c 83 79 [81,82],.m 80 83,.e 84 80 0,.e 85 80 1,.e 86 80 2,.op 12 (.alloc [.nils 1,.nils 2,.i 0,.F,.nils 7,.i 0,.nils 3,.i 0,.i 0,.i 0]),.s 100005 10 12 84,.m 13 85,.m 14 86]
 (.seq (.q [.m 87 14]
 (.c 87 (.reg [.m 88 5,.L 89 8 3,.m 90 13,.c 91 80 [89,90],.op 92 (.bslice 6 [(.t 91)]),.op 93 (.app 6 64 (.t 88) (.t 92)),.m 5 93])))
 (.q [.m 94 5,.m 4 94]
 .ret))))))))))⟩
theorem r_Dc {Te:TE} (c_Dd:C_Dd Te) (c_F7:C_F7 Te) (c_Fe:C_Fe Te) (c_D0:C_D0 Te) (c_Db:C_Db Te) (c_F1:C_F1 Te) (c_Fj:C_Fj Te) (c_Fa:C_Fa Te):C_Dc (RF Te x_Dc):=by
 intro n m hn hm
 have hL:=hn.len (by decide)
 have nb:∀ a b:Int,(a != b) = !(a==b):=fun _ _=>rfl
 have hM:n.S.T.Marks.length≤2 ^ 48:=by have:=hn.2.2; omega
 have hF:n.free.In (2 ^ 20):=hn
 refine X0 x_Dc.eq_1 ?_
 refine C0 (c_Dd m) ?_
 cases g0:m.ok
 ·have e:n.mayS m=[]:=mayS_no (by rw [g0]; rfl)
  exact F1 e
 cases g1:decide (m.To < 3)
 rotate_left
 ·have e:n.mayS m=[]:=mayS_no (by rw [g0,g1]; rfl)
  exact F2 g1 e
 refine G1 g1 ?_
 refine C0 (c_F7 n (hn.mono (by decide))) ?_
 cases g2:n.up
 ·have e:n.mayS m=[]:=mayS_no (by rw [g0,g1,g2]; rfl)
  exact F1 e
 cases k34:(m.Kind==3)||(m.Kind==4)
 ·have e:n.mayS m=[]:=mayS_no (by rw [g0,g1,g2,k34]; rfl)
  simp only [Bool.or_eq_false_iff] at k34
  obtain ⟨k3,k4⟩:=k34
  exact F4 nb k3 k4 e
 have h34:m.Kind=3∨m.Kind=4:=by simpa using k34
 have kk:(m.Kind==3)=false→(m.Kind==4)=true:=fun h=>by rw [h] at k34; exact k34
 cases g4:n.late m
 rotate_left
 ·have e:n.mayS m=[]:=mayS_no (by rw [g0,g1,g2,k34,g4]; rfl)
  cases k3:(m.Kind==3)
  ·have k4:=kk k3
   refine G3 nb k3 k4 ?_
   exact D2 (c_Fe n m hn g0) g4 e
  ·refine G2 nb k3 ?_
   exact D2 (c_Fe n m hn g0) g4 e
 have h0:(!m.ok||decide (m.To < 3) || !n.up || !((m.Kind==3)||(m.Kind==4))||n.late m)=false:=by rw [g0,g1,g2,k34,g4]; rfl
 have es:=sameMark_of n m
 generalize hK:(markAt n.S.T.Marks m.From).getD MarkV.zero=K at es
 generalize hB:(markAt n.S.T.Marks m.From).isSome=B at es
 have hmk:=c_Db n.S.T m.From hM
 rw [hK,hB] at hmk
 have e0:(decide (((n.desk m).2.2.length:Int) > 0)||sameMark n m)=true→n.mayS m=[]:=fun h=>mayS_got h0 h
 have e1:(decide (((n.desk m).2.2.length:Int) > 0)||sameMark n m)=false→(n.free.wrote m).2.2=true→n.mayS m=[actV m (n.free.wrote m).2.1]:=fun h g=>by rw [mayS_yes h0 h,g]; rfl
 have e2:(decide (((n.desk m).2.2.length:Int) > 0)||sameMark n m)=false→(n.free.wrote m).2.2=false→n.mayS m=[]:=fun h g=>by rw [mayS_yes h0 h,g]; rfl
 cases k3:(m.Kind==3)
 ·have k4:=kk k3
  refine G3 nb k3 k4 ?_
  refine C1 (c_Fe n m hn g0) g4 ?_
  refine C0 (c_D0 n m hn hm) ?_
  cases gl:decide (((n.desk m).2.2.length:Int) > 0)
  rotate_left
  ·have e:=e0 (by rw [gl]; rfl)
   exact D2 (hmk) gl e
  rw [gl,Bool.false_or] at e0 e1 e2
  cases gs:sameMark n m
  rotate_left
  ·have e:=e0 gs
   rw [gs] at es
   cases B
   ·cases es
   ·have q:=es.symm
    rw [Bool.true_and] at q
    exact D3 (hmk) gl q e
  have e1:=e1 gs
  have e2:=e2 gs
  rw [gs] at es
  cases B
  ·refine C1 (hmk) gl ?_
   refine C0 (c_F1 n hL) ?_
   refine C0 (c_Fj n.free m hF hm) ?_
   cases gw:(n.free.wrote m).2.2
   ·have e:=e2 gw
    exact F2 gw e
   ·have e:=e1 gw
    refine G1 gw ?_
    exact D1 (c_Fa m (n.free.wrote m).2.1 h34) e
  ·have q:=es.symm
   rw [Bool.true_and] at q
   refine C2 (hmk) gl q ?_
   refine C0 (c_F1 n hL) ?_
   refine C0 (c_Fj n.free m hF hm) ?_
   cases gw:(n.free.wrote m).2.2
   ·have e:=e2 gw
    exact F2 gw e
   ·have e:=e1 gw
    refine G1 gw ?_
    exact D1 (c_Fa m (n.free.wrote m).2.1 h34) e
 ·refine G2 nb k3 ?_
  refine C1 (c_Fe n m hn g0) g4 ?_
  refine C0 (c_D0 n m hn hm) ?_
  cases gl:decide (((n.desk m).2.2.length:Int) > 0)
  rotate_left
  ·have e:=e0 (by rw [gl]; rfl)
   exact D2 (hmk) gl e
  rw [gl,Bool.false_or] at e0 e1 e2
  cases gs:sameMark n m
  rotate_left
  ·have e:=e0 gs
   rw [gs] at es
   cases B
   ·cases es
   ·have q:=es.symm
    rw [Bool.true_and] at q
    exact D3 (hmk) gl q e
  have e1:=e1 gs
  have e2:=e2 gs
  rw [gs] at es
  cases B
  ·refine C1 (hmk) gl ?_
   refine C0 (c_F1 n hL) ?_
   refine C0 (c_Fj n.free m hF hm) ?_
   cases gw:(n.free.wrote m).2.2
   ·have e:=e2 gw
    exact F2 gw e
   ·have e:=e1 gw
    refine G1 gw ?_
    exact D1 (c_Fa m (n.free.wrote m).2.1 h34) e
  ·have q:=es.symm
   rw [Bool.true_and] at q
   refine C2 (hmk) gl q ?_
   refine C0 (c_F1 n hL) ?_
   refine C0 (c_Fj n.free m hF hm) ?_
   cases gw:(n.free.wrote m).2.2
   ·have e:=e2 gw
    exact F2 gw e
   ·have e:=e1 gw
    refine G1 gw ?_
    exact D1 (c_Fa m (n.free.wrote m).2.1 h34) e
def x_Bd:FnX:=⟨40,[.tmp 2],
  .q [.v 1 0,.F 2]
 (.q [.f 3 1 0,.L 4 4 3,.c 5 178 [4],.m 6 5,.y 6 (.f 7 1 0),.y 6 (.f 8 7 0),.y 6 (.l 9 8),.y 6 (.n 10 9),.y 6 (.B 11 .eql 10 62),.a 12 6 11,.m 13 12,.y 13 (.f 14 1 0),.y 13 (.f 15 14 1),.y 13 (.l 16 15),.y 13 (.n 17 16),.y 13 (.B 18 .eql 17 0),.y 13 (.m 19 18),.z 19 (.f 20 1 0),.z 19 (.f 21 20 3),.z 19 (.l 22 21),.y 13 (.r 23 19 22),.a 24 13 23,.m 25 24,.y 25 (.f 26 1 4),.y 25 (.L 27 3 26),.y 25 (.c 28 179 [27]),.a 29 25 28,.m 30 29,.y 30 (.f 31 1 7),.y 30 (.l 32 31),.y 30 (.op 33 (.call 90 [0,0,0] [(.t 32),(.i 1),(.i 60000)])),.a 34 30 33,.m 35 34,.y 35 (.f 36 1 8),.y 35 (.l 37 36),.y 35 (.op 38 (.call 90 [0,0,0] [(.t 37),(.i 0),(.i 30)])),.a 39 35 38,.m 2 39]
 .ret)⟩
theorem r_Bd {Te:TE} (c_Ab:C_Ab Te) (c_Bf:C_Bf Te) (c_Ch:C_Ch Te):C_Bd (RF Te x_Bd):=by
 intro s h
 obtain ⟨hD,hT⟩:=h
 obtain ⟨⟨secs,cache,fuse,down⟩,T,gen,place⟩:=s
 cases down
 ·skip
  refine X0 x_Bd.eq_1 ?_
  refine C0 (c_Ab ⟨secs,cache,fuse,false⟩ hD) ?_
  cases g1:DevV.ok ⟨secs,cache,fuse,false⟩
  ·have e:(StoreV.mk ⟨secs,cache,fuse,false⟩ T gen place).ok=false:=by simp only [StoreV.ok,g1,Bool.false_and]
   exact F1 e
  cases g2:((secs.length:Int)==62)
  ·have e:(StoreV.mk ⟨secs,cache,fuse,false⟩ T gen place).ok=false:=by simp only [StoreV.ok,g2,Bool.and_false,Bool.false_and]
   exact F2 g2 e
  cases g0:((cache.length:Int)==0)
  ·have e:(StoreV.mk ⟨secs,cache,fuse,false⟩ T gen place).ok=false:=by simp only [StoreV.ok,g0,Bool.or_self,Bool.and_false,Bool.false_and]
   exact F3 g2 g0 e
  refine G2 g2 g0 ?_
  refine C0 (c_Bf T hT) ?_
  cases g4:T.ok
  ·have e:(StoreV.mk ⟨secs,cache,fuse,false⟩ T gen place).ok=false:=by simp only [StoreV.ok,g4,Bool.and_false,Bool.false_and]
   exact F1 e
  refine G0 ?_
  refine C0 (c_Ch _ _ _) ?_
  cases g5:win gen 1 60000
  ·have e:(StoreV.mk ⟨secs,cache,fuse,false⟩ T gen place).ok=false:=by simp only [StoreV.ok,g5,Bool.and_false,Bool.false_and]
   exact F1 e
  refine G0 ?_
  have e:(StoreV.mk ⟨secs,cache,fuse,false⟩ T gen place).ok=win place 0 30:=by simp only [StoreV.ok,g1,g2,g0,g4,g5,Bool.and_true,Bool.true_and,Bool.or_true,Bool.true_or]
  exact D1 (c_Ch _ _ _) e
 ·skip
  refine X0 x_Bd.eq_1 ?_
  refine C0 (c_Ab ⟨secs,cache,fuse,true⟩ hD) ?_
  cases g1:DevV.ok ⟨secs,cache,fuse,true⟩
  ·have e:(StoreV.mk ⟨secs,cache,fuse,true⟩ T gen place).ok=false:=by simp only [StoreV.ok,g1,Bool.false_and]
   exact F1 e
  cases g2:((secs.length:Int)==62)
  ·have e:(StoreV.mk ⟨secs,cache,fuse,true⟩ T gen place).ok=false:=by simp only [StoreV.ok,g2,Bool.and_false,Bool.false_and]
   exact F2 g2 e
  cases g0:((cache.length:Int)==0)
  ·refine G2 g2 g0 ?_
   refine C0 (c_Bf T hT) ?_
   cases g4:T.ok
   ·have e:(StoreV.mk ⟨secs,cache,fuse,true⟩ T gen place).ok=false:=by simp only [StoreV.ok,g4,Bool.and_false,Bool.false_and]
    exact F1 e
   refine G0 ?_
   refine C0 (c_Ch _ _ _) ?_
   cases g5:win gen 1 60000
   ·have e:(StoreV.mk ⟨secs,cache,fuse,true⟩ T gen place).ok=false:=by simp only [StoreV.ok,g5,Bool.and_false,Bool.false_and]
    exact F1 e
   refine G0 ?_
   have e:(StoreV.mk ⟨secs,cache,fuse,true⟩ T gen place).ok=win place 0 30:=by simp only [StoreV.ok,g1,g2,g0,g4,g5,Bool.and_true,Bool.true_and,Bool.or_true,Bool.true_or]
   exact D1 (c_Ch _ _ _) e
  ·refine G2 g2 g0 ?_
   refine C0 (c_Bf T hT) ?_
   cases g4:T.ok
   ·have e:(StoreV.mk ⟨secs,cache,fuse,true⟩ T gen place).ok=false:=by simp only [StoreV.ok,g4,Bool.and_false,Bool.false_and]
    exact F1 e
   refine G0 ?_
   refine C0 (c_Ch _ _ _) ?_
   cases g5:win gen 1 60000
   ·have e:(StoreV.mk ⟨secs,cache,fuse,true⟩ T gen place).ok=false:=by simp only [StoreV.ok,g5,Bool.and_false,Bool.false_and]
    exact F1 e
   refine G0 ?_
   have e:(StoreV.mk ⟨secs,cache,fuse,true⟩ T gen place).ok=win place 0 30:=by simp only [StoreV.ok,g1,g2,g0,g4,g5,Bool.and_true,Bool.true_and,Bool.or_true,Bool.true_or]
   exact D1 (c_Ch _ _ _) e
def x_E6:FnX:=⟨40,[.tmp 2],
  .q [.v 1 0,.F 2]
 (.q [.f 3 1 0,.L 4 4 3,.c 5 205 [4],.m 6 5,.y 6 (.f 7 1 0),.y 6 (.f 8 7 0),.y 6 (.l 9 8),.y 6 (.n 10 9),.y 6 (.B 11 .eql 10 62),.a 12 6 11,.m 13 12,.y 13 (.f 14 1 0),.y 13 (.f 15 14 3),.y 13 (.l 16 15),.y 13 (.m 17 16),.z 17 (.f 18 1 0),.z 17 (.f 19 18 1),.z 17 (.l 20 19),.z 17 (.n 21 20),.z 17 (.B 22 .eql 21 0),.y 13 (.r 23 17 22),.a 24 13 23,.m 25 24,.y 25 (.f 26 1 4),.y 25 (.L 27 3 26),.y 25 (.c 28 206 [27]),.a 29 25 28,.m 30 29,.y 30 (.f 31 1 7),.y 30 (.l 32 31),.y 30 (.op 33 (.call 120 [0,0,0] [(.t 32),(.i 1),(.i 60000)])),.a 34 30 33,.m 35 34,.y 35 (.f 36 1 8),.y 35 (.l 37 36),.y 35 (.op 38 (.call 120 [0,0,0] [(.t 37),(.i 0),(.i 30)])),.a 39 35 38,.m 2 39]
 .ret)⟩
theorem r_E6 {Te:TE} (c_D2:C_D2 Te) (c_E8:C_E8 Te) (c_Fo:C_Fo Te):C_E6 (RF Te x_E6):=by
 intro s h
 obtain ⟨hD,hT⟩:=h
 obtain ⟨⟨secs,cache,fuse,down⟩,T,gen,place⟩:=s
 cases down
 ·skip
  refine X0 x_E6.eq_1 ?_
  refine C0 (c_D2 ⟨secs,cache,fuse,false⟩ hD) ?_
  cases g1:DevV.ok ⟨secs,cache,fuse,false⟩
  ·have e:(StoreV.mk ⟨secs,cache,fuse,false⟩ T gen place).ok=false:=by simp only [StoreV.ok,g1,Bool.false_and]
   exact F1 e
  cases g2:((secs.length:Int)==62)
  ·have e:(StoreV.mk ⟨secs,cache,fuse,false⟩ T gen place).ok=false:=by simp only [StoreV.ok,g2,Bool.and_false,Bool.false_and]
   exact F2 g2 e
  cases g0:((cache.length:Int)==0)
  ·have e:(StoreV.mk ⟨secs,cache,fuse,false⟩ T gen place).ok=false:=by simp only [StoreV.ok,g0,Bool.or_self,Bool.and_false,Bool.false_and]
   exact F3 g2 g0 e
  refine G2 g2 g0 ?_
  refine C0 (c_E8 T hT) ?_
  cases g4:T.ok
  ·have e:(StoreV.mk ⟨secs,cache,fuse,false⟩ T gen place).ok=false:=by simp only [StoreV.ok,g4,Bool.and_false,Bool.false_and]
   exact F1 e
  refine G0 ?_
  refine C0 (c_Fo _ _ _) ?_
  cases g5:win gen 1 60000
  ·have e:(StoreV.mk ⟨secs,cache,fuse,false⟩ T gen place).ok=false:=by simp only [StoreV.ok,g5,Bool.and_false,Bool.false_and]
   exact F1 e
  refine G0 ?_
  have e:(StoreV.mk ⟨secs,cache,fuse,false⟩ T gen place).ok=win place 0 30:=by simp only [StoreV.ok,g1,g2,g0,g4,g5,Bool.and_true,Bool.true_and,Bool.or_true,Bool.true_or]
  exact D1 (c_Fo _ _ _) e
 ·skip
  refine X0 x_E6.eq_1 ?_
  refine C0 (c_D2 ⟨secs,cache,fuse,true⟩ hD) ?_
  cases g1:DevV.ok ⟨secs,cache,fuse,true⟩
  ·have e:(StoreV.mk ⟨secs,cache,fuse,true⟩ T gen place).ok=false:=by simp only [StoreV.ok,g1,Bool.false_and]
   exact F1 e
  cases g2:((secs.length:Int)==62)
  ·have e:(StoreV.mk ⟨secs,cache,fuse,true⟩ T gen place).ok=false:=by simp only [StoreV.ok,g2,Bool.and_false,Bool.false_and]
   exact F2 g2 e
  refine G1 g2 ?_
  refine C0 (c_E8 T hT) ?_
  cases g4:T.ok
  ·have e:(StoreV.mk ⟨secs,cache,fuse,true⟩ T gen place).ok=false:=by simp only [StoreV.ok,g4,Bool.and_false,Bool.false_and]
   exact F1 e
  refine G0 ?_
  refine C0 (c_Fo _ _ _) ?_
  cases g5:win gen 1 60000
  ·have e:(StoreV.mk ⟨secs,cache,fuse,true⟩ T gen place).ok=false:=by simp only [StoreV.ok,g5,Bool.and_false,Bool.false_and]
   exact F1 e
  refine G0 ?_
  have e:(StoreV.mk ⟨secs,cache,fuse,true⟩ T gen place).ok=win place 0 30:=by simp only [StoreV.ok,g1,g2,g4,g5,Bool.and_true,Bool.true_and,Bool.or_true,Bool.true_or]
  exact D1 (c_Fo _ _ _) e
def x_Aq:FnX:=⟨11,[.tmp 2],
  .q [.v 1 0,.F 2]
 (.q [.f 3 1 0,.L 4 9 3,.c 5 89 [4],.m 6 5,.y 6 (.f 7 1 9),.y 6 (.l 8 7),.y 6 (.op 9 (.call 90 [0,0,0] [(.t 8),(.i 1),(.i 5)])),.a 10 6 9,.m 2 10]
 .ret)⟩
theorem r_Aq {Te:TE} (c_Bd:C_Bd Te) (c_Ch:C_Ch Te):C_Aq (RF Te x_Aq):=by
 intro n h
 refine run0 ?_
 simp -implicitDefEqProofs (maxSteps:=1000000) only [x_Aq,go_sem,NodeV.ok]
 repeat refine ⟨sc,?_⟩
 try exact sf
 refine C0 (c_Bd n.S h) ?_
 cases g1:n.S.ok
 ·exact F0
 ·refine G0 ?_
  exact D0 (c_Ch _ _ _)
def x_Bp:FnX:=⟨10,[.cell 2 (some 2)],
  .q [.v 1 0,.op 2 (.alloc [.i 0,.nils 1])]
 (.seq (.draw [.f 3 1 0,.l 4 3,.f 5 1 1,.l 6 5,.op 7 (.bslice 1 [(.t 6)]),.c 8 100 [7],.op 9 (.build [.i 0,.nils 1] [(0,1,(.t 4)),(1,1,(.t 8))]),.s 100001 2 2 9] [[],[0],[],[2],[3],[4],[1,5],[6,5,0,1,2,3,4,5,6]])
 .ret)⟩
theorem r_Bp {Te:TE} (c_C1:C_C1 Te):C_Bp (RF Te x_Bp):=by
 intro c h
 have h0:c.B.length≤2 ^ 21:=h
 refine X0 x_Bp.eq_1 ?_
 refine .of (c_C1 [c.B] (by rw [flat1]; omega) (by show 1≤2 ^ 31; decide)) ?_
 try simp -implicitDefEqProofs (maxSteps:=1000000) only [go_sem,flat1]
 repeat refine ⟨sc,?_⟩
 try exact sf
def x_Gb:FnX:=⟨10,[.cell 2 (some 2)],
  .q [.v 1 0,.op 2 (.alloc [.i 0,.nils 1])]
 (.seq (.draw [.f 3 1 0,.l 4 3,.op 5 (.bslice 1 []),.f 6 1 1,.l 7 6,.op 8 (.app 1 1 (.t 5) (.t 7)),.op 9 (.build [.i 0,.nils 1] [(0,1,(.t 4)),(1,1,(.t 8))]),.s 100001 2 2 9] [[],[0],[],[],[3],[2,4],[1,5],[6,5,0,1,2,3,4,5,6]])
 .ret)⟩
theorem r_Gb {Te:TE}:C_Gb (RF Te x_Gb):=by
 intro c h
 refine run0 ?_
 have h0:c.B.length≤2 ^ 21:=h
 simp -implicitDefEqProofs (maxSteps:=1000000) only [x_Gb,go_sem]
 repeat refine ⟨sc,?_⟩
 try exact sf
def x_Bs:FnX:=⟨12,[.cell 2 (some 7)],
  .q [.v 1 0,.op 2 (.alloc [.e,.i 0,.nils 1,.i 0,.nils 1,.i 0,.F])]
 (.seq (.draw [.f 3 1 1,.L 4 2 3,.c 5 304 [4],.f 6 1 3,.L 7 2 6,.c 8 304 [7],.f 9 1 1,.s 100001 2 9 5,.f 10 1 3,.s 100002 2 10 8] [[],[0],[1],[],[3],[4,2],[0,1,2,3,4],[6,2,5,0,1,2,3,4],[0,1,2,3,4,5,6,7],[8,5,7,0,1,2,3,4,5,6,7]])
 (.q [.L 11 7 1,.s 100003 7 2 11]
 .ret))⟩
theorem r_Bs {Te:TE} (c_Bp:C_Bp Te):C_Bs (RF Te x_Bs):=by
 intro r h
 refine X0 x_Bs.eq_1 ?_
 refine C0 (c_Bp r.Old h.1) ?_
 exact D0 (c_Bp r.New h.2)
def x_Ge:FnX:=⟨16,[.cell 2 (some 7)],
  .q [.v 1 0,.op 2 (.alloc [.e,.i 0,.nils 1,.i 0,.nils 1,.i 0,.F])]
 (.seq (.draw [.f 3 1 0,.l 4 3,.f 5 1 1,.L 6 2 5,.c 7 338 [6],.f 8 1 3,.L 9 2 8,.c 10 338 [9],.f 11 1 5,.l 12 11,.f 13 1 6,.l 14 13,.op 15 (.build [.e,.i 0,.nils 1,.i 0,.nils 1,.i 0,.F] [(0,1,(.t 4)),(1,2,(.t 7)),(3,2,(.t 10)),(5,1,(.t 12)),(6,1,(.t 14))]),.s 100001 7 2 15] [[],[0],[],[2],[3],[],[5],[6,4],[],[8],[],[10],[1,4,7,9,11],[12,7,0,1,2,3,4,5,6,7,8,9,10,11,12]])
 .ret)⟩
theorem r_Ge {Te:TE} (c_Gb:C_Gb Te):C_Ge (RF Te x_Ge):=by
 intro r h
 refine X0 x_Ge.eq_1 ?_
 refine C0 (c_Gb r.Old h.1) ?_
 exact D0 (c_Gb r.New h.2)
def x_Bx:FnX:=⟨4,[.tmp 2],
  .q [.op 2 (.mv (.k (.one (.pv (.int .u8 0)))))]
 (.seq (.q [.m 3 0]
 (.c 3 (.q [.op 2 (.mv (.k (.one (.pv (.int .u8 1)))))]
 .ret)))
 (.q [.op 2 (.mv (.k (.one (.pv (.int .u8 0)))))]
 .ret))⟩
theorem r_Bx {Te:TE}:C_Bx (RF Te x_Bx):=by
 intro b
 cases b
 ·refine X0 x_Bx.eq_1 ?_
  try rfl
 ·refine X0 x_Bx.eq_1 ?_
  try rfl
def x_Eh:FnX:=⟨4,[.tmp 2],
  .q [.op 2 (.mv (.k (.one (.pv (.int .u8 0)))))]
 (.seq (.q [.m 3 0]
 (.c 3 (.q [.op 2 (.mv (.k (.one (.pv (.int .u8 1)))))]
 .ret)))
 (.q [.op 2 (.mv (.k (.one (.pv (.int .u8 0)))))]
 .ret))⟩
theorem r_Eh {Te:TE}:C_Eh (RF Te x_Eh):=by
 intro b
 cases b
 ·refine X0 x_Eh.eq_1 ?_
  try rfl
 ·refine X0 x_Eh.eq_1 ?_
  try rfl
def x_Ca:FnX:=⟨38,[.tmp 4],
  .q [.v 2 0,.v 3 1,.F 4]
 (.q [.f 5 2 0,.l 6 5,.f 7 3 0,.l 8 7,.b 9 .eql 6 8,.m 10 9,.y 10 (.f 11 2 1),.y 10 (.L 12 2 11),.y 10 (.f 13 3 1),.y 10 (.L 14 2 13),.y 10 (.c 15 173 [12,14]),.a 16 10 15,.m 17 16,.y 17 (.f 18 2 3),.y 17 (.L 19 2 18),.y 17 (.f 20 3 3),.y 17 (.L 21 2 20),.y 17 (.c 22 173 [19,21]),.a 23 17 22,.m 24 23,.y 24 (.f 25 2 5),.y 24 (.l 26 25),.y 24 (.f 27 3 5),.y 24 (.l 28 27),.y 24 (.b 29 .eql 26 28),.a 30 24 29,.m 31 30,.y 31 (.f 32 2 6),.y 31 (.l 33 32),.y 31 (.f 34 3 6),.y 31 (.l 35 34),.y 31 (.op 36 (.beq false (.t 33) (.t 35))),.a 37 31 36,.m 4 37]
 .ret)⟩
theorem r_Ca {Te:TE} (c_C9:C_C9 Te):C_Ca (RF Te x_Ca):=by
 intro a c
 refine run0 ?_
 simp -implicitDefEqProofs (maxSteps:=1000000) only [x_Ca,go_sem,bytes_beq]
 repeat refine ⟨sc,?_⟩
 try exact sf
 cases g1:decide (a.Key=c.Key)
 ·try simp -implicitDefEqProofs (maxSteps:=1000000) only [go_sem,g1,rowSame]
  repeat refine ⟨sc,?_⟩
  try exact sf
 refine G1 g1 ?_
 have t1:=c_C9 a.Old c.Old
 have t2:=c_C9 a.New c.New
 rw [← cellSame] at t1 t2
 refine .of t1 ?_
 cases g2:cellSame a.Old c.Old
 ·try simp -implicitDefEqProofs (maxSteps:=1000000) only [go_sem,g1,g2,rowSame]
  repeat refine ⟨sc,?_⟩
  try exact sf
 refine G0 ?_
 refine .of t2 ?_
 cases g3:cellSame a.New c.New
 ·try simp -implicitDefEqProofs (maxSteps:=1000000) only [go_sem,g1,g2,g3,rowSame]
  repeat refine ⟨sc,?_⟩
  try exact sf
 refine G0 ?_
 cases g4:(a.Has==c.Has)
 ·try simp -implicitDefEqProofs (maxSteps:=1000000) only [go_sem,g1,g2,g3,g4,rowSame]
  repeat refine ⟨sc,?_⟩
  try exact sf
 have e9:∀ c:Bool,(c != false)=c:=fun c=>by cases c <;> rfl
 try simp -implicitDefEqProofs (maxSteps:=1000000) only [go_sem,g1,g2,g3,g4,rowSame,e9]
 repeat refine ⟨sc,?_⟩
 try exact sf
def x_Ek:FnX:=⟨26,[.tmp 2],
  .q [.v 1 0,.F 2]
 (.q [.f 3 1 0,.l 4 3,.op 5 (.bin .eql (.t 4) (.k (.one (.pv (.string ⟨#[]⟩))))),.m 6 5,.y 6 (.f 7 1 1),.y 6 (.L 8 2 7),.y 6 (.c 9 339 [8]),.a 10 6 9,.m 11 10,.y 11 (.f 12 1 3),.y 11 (.L 13 2 12),.y 11 (.c 14 339 [13]),.a 15 11 14,.m 16 15,.y 16 (.f 17 1 5),.y 16 (.l 18 17),.y 16 (.B 19 .eql 18 0),.a 20 16 19,.m 21 20,.y 21 (.f 22 1 6),.y 21 (.l 23 22),.y 21 (.N 24 23),.a 25 21 24,.m 2 25]
 .ret)⟩
theorem r_Ek {Te:TE} (c_Gh:C_Gh Te):C_Ek (RF Te x_Ek):=by
 intro r
 refine run0 ?_
 simp -implicitDefEqProofs (maxSteps:=1000000) only [x_Ek,go_sem,bytes_beq]
 repeat refine ⟨sc,?_⟩
 try exact sf
 cases g1:decide (r.Key=⟨#[]⟩)
 ·try simp -implicitDefEqProofs (maxSteps:=1000000) only [go_sem,g1,RowV.no]
  repeat refine ⟨sc,?_⟩
  try exact sf
 refine G1 g1 ?_
 refine C0 (c_Gh r.Old) ?_
 cases g2:r.Old.no
 ·try simp -implicitDefEqProofs (maxSteps:=1000000) only [go_sem,g1,g2,RowV.no]
  repeat refine ⟨sc,?_⟩
  try exact sf
 refine G0 ?_
 refine C0 (c_Gh r.New) ?_
 cases g3:r.New.no
 ·try simp -implicitDefEqProofs (maxSteps:=1000000) only [go_sem,g1,g2,g3,RowV.no]
  repeat refine ⟨sc,?_⟩
  try exact sf
 refine G0 ?_
 cases g4:(r.Has==0)
 ·try simp -implicitDefEqProofs (maxSteps:=1000000) only [go_sem,g1,g2,g3,g4,RowV.no]
  repeat refine ⟨sc,?_⟩
  try exact sf
 try simp -implicitDefEqProofs (maxSteps:=1000000) only [go_sem,g1,g2,g3,g4,RowV.no]
 repeat refine ⟨sc,?_⟩
 try exact sf
def x_By:FnX:=⟨5,[.tmp 2],
  .q [.F 2]
 (.q [.m 3 0,.op 4 (.call 90 [0,0,0] [(.t 3),(.i 0),(.i 5)]),.m 2 4]
 .ret)⟩
theorem r_By {Te:TE} (c_Ch:C_Ch Te):C_By (RF Te x_By):=by
 intro cs
 refine X0 x_By.eq_1 ?_
 exact D0 (c_Ch _ _ _)
def x_G5:FnX:=⟨5,[.tmp 2],
  .q [.F 2]
 (.q [.m 3 0,.op 4 (.call 120 [0,0,0] [(.t 3),(.i 0),(.i 5)]),.m 2 4]
 .ret)⟩
theorem r_G5 {Te:TE} (c_Fo:C_Fo Te):C_G5 (RF Te x_G5):=by
 intro cs
 refine X0 x_G5.eq_1 ?_
 exact D0 (c_Fo _ _ _)
def x_Cc:FnX:=⟨42,[.tmp 6,.tmp 7,.tmp 8],
  .q [.i 6 0,.i 7 0,.F 8]
 (.seq (.q [.m 11 0]
 (.block 0 (.q [.B 13 .eql 11 0,.m 12 13]
 (.cond 12 (.q [.m 14 1,.m 15 2,.c 16 267 [14,15],.e 17 16 0,.e 18 16 1,.e 19 16 2,.m 6 17,.m 7 18,.m 8 19]
 .ret) (.q [.B 21 .eql 11 5,.m 20 21]
 (.c 20 (.q [.m 22 1,.m 23 2,.c 24 268 [22,23],.e 25 24 0,.e 26 24 1,.e 27 24 2,.m 6 25,.m 7 26,.m 8 27]
 .ret)))))))
 (.q [.m 29 0,.m 30 1,.m 31 2,.x 32 1 30 31,.l 33 32,.op 34 (.conv (.int .i64) (.t 33)),.c 35 269 [29,34],.m 28 35,.e 36 28 0,.e 37 28 1,.m 9 36,.m 10 37]
 (.q [.m 38 9,.m 39 2,.B 40 .add 39 1,.m 41 10,.m 6 38,.m 7 40,.m 8 41]
 .ret)))⟩
theorem r_Cc {Te:TE} (c_Ag:C_Ag Te) (c_Ad:C_Ad Te) (c_A4:C_A4 Te):C_Cc (RF Te x_Cc):=by
 intro cs b i hb hi
 refine run0 ?_
 cases g0:(cs==0)
 ·have n0:¬ cs=0:=by simpa using g0
  cases g5:(cs==5)
  ·have n5:¬ cs=5:=by simpa using g5
   have e:signIn cs b i=((byteSign cs (byteN b i.toNat:Nat)).1,i + 1,(byteSign cs (byteN b i.toNat:Nat)).2):=by rw [signIn,if_neg n0,if_neg n5]
   have hk:i.toNat < b.length:=by omega
   have eb:b[i.toNat].toNat=byteN b i.toNat:=by
    simp only [byteN,List.getD_eq_getElem?_getD]
    rw [List.getElem?_eq_getElem hk]
    rfl
   have hlt:=byteN_lt b i.toNat
   have w1:IntKind.i64.wrap ((byteN b i.toNat:Nat):Int)=(byteN b i.toNat:Nat):=IntWalk.i64_in _ (by omega)
   have w2:IntKind.i64.wrap (i + 1)=i + 1:=IntWalk.i64_in _ (by omega)
   simp -implicitDefEqProofs (maxSteps:=1000000) only [x_Cc,go_sem,g0,g5,List.getElem?_eq_getElem hk,eb,w1]
   repeat refine ⟨sc,?_⟩
   try exact sf
   exact D2 (c_A4 _ _) w2 e
  ·have n5:cs=5:=eq_of_beq g5
   subst n5
   have e:signIn 5 b i=eucSign b i:=rfl
   simp -implicitDefEqProofs (maxSteps:=1000000) only [x_Cc,go_sem]
   repeat refine ⟨sc,?_⟩
   try exact sf
   exact D1 (c_Ad b i hb) e
 ·have n0:cs=0:=eq_of_beq g0
  subst n0
  have e:signIn 0 b i=getSign b i:=rfl
  simp -implicitDefEqProofs (maxSteps:=1000000) only [x_Cc,go_sem]
  repeat refine ⟨sc,?_⟩
  try exact sf
  exact D1 (c_Ag b i (by omega)) e
def x_G6:FnX:=⟨42,[.tmp 6,.tmp 7,.tmp 8],
  .q [.i 6 0,.i 7 0,.F 8]
 (.seq (.q [.m 11 0]
 (.block 0 (.q [.B 13 .eql 11 0,.m 12 13]
 (.cond 12 (.q [.m 14 1,.m 15 2,.c 16 272 [14,15],.e 17 16 0,.e 18 16 1,.e 19 16 2,.m 6 17,.m 7 18,.m 8 19]
 .ret) (.q [.B 21 .eql 11 5,.m 20 21]
 (.c 20 (.q [.m 22 1,.m 23 2,.c 24 273 [22,23],.e 25 24 0,.e 26 24 1,.e 27 24 2,.m 6 25,.m 7 26,.m 8 27]
 .ret)))))))
 (.q [.m 29 0,.m 30 1,.m 31 2,.x 32 1 30 31,.l 33 32,.op 34 (.conv (.int .i64) (.t 33)),.c 35 274 [29,34],.m 28 35,.e 36 28 0,.e 37 28 1,.m 9 36,.m 10 37]
 (.q [.m 38 9,.m 39 2,.B 40 .add 39 1,.m 41 10,.m 6 38,.m 7 40,.m 8 41]
 .ret)))⟩
theorem r_G6 {Te:TE} (c_D9:C_D9 Te) (c_D6:C_D6 Te) (c_Cu:C_Cu Te):C_G6 (RF Te x_G6):=by
 intro cs b i hb hi
 refine run0 ?_
 cases g0:(cs==0)
 ·have n0:¬ cs=0:=by simpa using g0
  cases g5:(cs==5)
  ·have n5:¬ cs=5:=by simpa using g5
   have e:signIn cs b i=((byteSign cs (byteN b i.toNat:Nat)).1,i + 1,(byteSign cs (byteN b i.toNat:Nat)).2):=by rw [signIn,if_neg n0,if_neg n5]
   have hk:i.toNat < b.length:=by omega
   have eb:b[i.toNat].toNat=byteN b i.toNat:=by
    simp only [byteN,List.getD_eq_getElem?_getD]
    rw [List.getElem?_eq_getElem hk]
    rfl
   have hlt:=byteN_lt b i.toNat
   have w1:IntKind.i64.wrap ((byteN b i.toNat:Nat):Int)=(byteN b i.toNat:Nat):=IntWalk.i64_in _ (by omega)
   have w2:IntKind.i64.wrap (i + 1)=i + 1:=IntWalk.i64_in _ (by omega)
   simp -implicitDefEqProofs (maxSteps:=1000000) only [x_G6,go_sem,g0,g5,List.getElem?_eq_getElem hk,eb,w1]
   repeat refine ⟨sc,?_⟩
   try exact sf
   exact D2 (c_Cu _ _) w2 e
  ·have n5:cs=5:=eq_of_beq g5
   subst n5
   have e:signIn 5 b i=eucSign b i:=rfl
   simp -implicitDefEqProofs (maxSteps:=1000000) only [x_G6,go_sem]
   repeat refine ⟨sc,?_⟩
   try exact sf
   exact D1 (c_D6 b i hb) e
 ·have n0:cs=0:=eq_of_beq g0
  subst n0
  have e:signIn 0 b i=getSign b i:=rfl
  simp -implicitDefEqProofs (maxSteps:=1000000) only [x_G6,go_sem]
  repeat refine ⟨sc,?_⟩
  try exact sf
  exact D1 (c_D9 b i (by omega)) e
def x_A9:FnX:=⟨35,[.tmp 4,.tmp 5],
  .q [.op 4 (.mv (.k (.one (.pv (.string ⟨#[]⟩))))),.F 5]
 (.seq (.q [.m 11 0,.c 12 184 [11],.N 13 12]
 (.c 13 (.q [.op 4 (.mv (.k (.one (.pv (.string ⟨#[]⟩))))),.F 5]
 .ret)))
 (.q [.op 14 (.bslice 1 []),.m 6 14]
 (.seq (.q [.i 7 0]
 (.block 0 (.loop [0,1,6,7] (.seq (.q [.m 15 7,.m 16 1,.n 17 16,.b 18 .lss 15 17]
 (.cond 18 .skip (.exit 0)))
 (.block 1 (.q [.m 20 0,.m 21 1,.m 22 7,.c 23 185 [20,21,22],.m 19 23,.e 24 19 0,.e 25 19 1,.e 26 19 2,.m 8 24,.m 9 25,.m 10 26]
 (.seq (.q [.m 27 10,.N 28 27]
 (.c 28 (.q [.op 4 (.mv (.k (.one (.pv (.string ⟨#[]⟩))))),.F 5]
 .ret)))
 (.q [.m 29 6,.m 30 8,.c 31 186 [29,30],.m 6 31]
 (.reg [.m 32 9,.m 7 32])))))))))
 (.norm [6] (.q [.m 33 6,.op 34 (.conv .b2s (.t 33)),.m 4 34,.T 5]
 .ret)))))⟩
theorem r_A9 {Te:TE} (c_By:C_By Te) (c_Cc:C_Cc Te) (c_Ay:C_Ay Te):C_A9 (RF Te x_A9):=by
 intro cs b hb
 cases g:win cs 0 5
 ·have e:decode cs b=(⟨#[]⟩,false):=by rw [decode,g]; rfl
  refine X0 x_A9.eq_1 ?_
  exact D2 (c_By _) g e
 ·have e:decode cs b=decGo cs b b.length 0 []:=by rw [decode,g]; rfl
  rw [e]
  generalize hD:decGo cs b b.length 0 []=D
  refine X0 x_A9.eq_1 ?_
  refine C1 (c_By _) g ?_
  refine loop_of (σ:=Nat×Nat×List UInt8) (fun x=>⟨[(0,.one (.pv (.int .i64 cs))),(1,.one (.ro 1 (b.map uR))),(6,.one (.rf 37 0 [] 1 0 x.2.2.length)),(7,.one (.pv (.int .i64 x.2.1)))],[],[(0,[iT cs]),(1,[slT false 1 uR b]),(37,[slT true 1 uR x.2.2])]⟩) (fun x=>x.2.1≤b.length∧b.length≤x.1 + x.2.1∧x.2.2.length≤4 * x.2.1∧decGo cs b x.1 x.2.1 x.2.2=D) (fun x=>b.length - x.2.1) (b.length,0,[]) ?_ ⟨Nat.zero_le _,Nat.le_refl _,Nat.zero_le _,hD⟩ ?_
  ·simp -implicitDefEqProofs (maxSteps:=1000000) only [go_sem]
   try rfl
  ·rintro ⟨fu,i,out⟩ ⟨hi,hf,ho,hd⟩
   simp only at hi hf ho hd
   cases q:decide ((i:Int) < (b.length:Int))
   ·have hq:¬ (i:Int) < (b.length:Int):=by simpa using q
    rw [dec_end hq] at hd
    subst hd
    refine G1 q ?_
    refine ⟨areBytes_uR out,?_⟩
    rw [bytesOf_uD]
    try rfl
   ·have hq:(i:Int) < (b.length:Int):=by simpa using q
    obtain ⟨f,rfl⟩:∃ f,fu=f + 1:=⟨fu - 1,by omega⟩
    have hs:=c_Cc cs b i (by omega) ⟨by omega,hq⟩
    cases g2:(signIn cs b i).2.2
    ·rw [dec_bad hq g2] at hd
     subst hd
     refine G1 q ?_
     exact D1 (hs) g2
    ·rw [dec_step hq g2] at hd
     have hn:=signIn_next ⟨by omega,hq⟩ g2
     generalize signIn cs b i=r at hs g2 hd hn
     obtain ⟨n,nx,ok⟩:=r
     simp only at hs g2 hd hn
     subst g2
     obtain ⟨j,rfl⟩:∃ j:Nat,nx=j:=⟨nx.toNat,by omega⟩
     have hl:=putSign_len out n
     refine G1 q ?_
     refine C0 (hs) ?_
     refine C0 (c_Ay out n (by omega)) ?_
     exact ⟨(f,j,putSign out n),rfl,⟨by simp only; omega,by simp only; omega,by simp only; omega,hd⟩,by simp only; omega⟩
def x_E5:FnX:=⟨33,[.tmp 2,.tmp 3],
  .q [.op 2 (.mv (.k (.one (.nils 1)))),.F 3]
 (.q [.op 10 (.bslice 1 []),.m 4 10]
 (.q [.m 11 0,.op 12 (.conv .s2b (.t 11)),.m 5 12]
 (.seq (.q [.i 6 0]
 (.block 0 (.loop [4,5,6] (.seq (.q [.m 13 6,.m 14 5,.n 15 14,.b 16 .lss 13 15]
 (.cond 16 .skip (.exit 0)))
 (.block 1 (.q [.m 18 5,.m 19 6,.c 20 272 [18,19],.m 17 20,.e 21 17 0,.e 22 17 1,.e 23 17 2,.m 7 21,.m 8 22,.m 9 23]
 (.seq (.q [.m 24 9,.N 25 24]
 (.c 25 (.q [.op 26 (.bslice 1 []),.m 2 26,.F 3]
 .ret)))
 (.q [.m 27 4,.m 28 7,.op 29 (.bslice 1 [(.t 28)]),.op 30 (.app 1 8 (.t 27) (.t 29)),.m 4 30]
 (.reg [.m 31 8,.m 6 31])))))))))
 (.norm [4] (.q [.m 32 4,.m 2 32,.T 3]
 .ret)))))⟩
theorem r_E5 {Te:TE} (c_D9:C_D9 Te):C_E5 (RF Te x_E5):=by
 intro s hs
 have hsz:=sizeL s
 refine X0 x_E5.eq_1 ?_
 generalize eB:s.data.toList=B at hsz
 have eS:signsOf s=if Lib.validD B=true then (signs B,true) else ([],false):=by rw [signsOf,eB]
 refine loop_of (σ:=Nat×List Int) (fun x=>⟨[(4,.one (.rf 34 0 [] 1 0 x.2.length)),(5,.one (.rf 35 0 [] 1 0 B.length)),(6,.one (.pv (.int .i64 x.1)))],[],[(0,[sT s]),(34,[slT true 1 iR x.2]),(35,[slT true 1 uR B])]⟩) (fun x=>x.1≤B.length∧x.2.length≤x.1∧x.2++signs (B.drop x.1)=signs B∧Lib.validD (B.drop x.1)=Lib.validD B) (fun x=>B.length - x.1) (0,[]) ?_ ⟨Nat.zero_le _,Nat.le_refl _,rfl,rfl⟩ ?_
 ·simp -implicitDefEqProofs (maxSteps:=1000000) only [go_sem,ofBytes,byteT,eB]
  try rfl
 ·rintro ⟨p,acc⟩ ⟨hp,hl,ha,hv⟩
  simp only at hp hl ha hv
  cases q:decide ((p:Int) < (B.length:Int))
  ·have hd:B.drop p=[]:=List.drop_eq_nil_of_le (by simp only [decide_eq_false_iff_not] at q; omega)
   rw [hd,signs_nil,List.append_nil] at ha
   rw [hd,Lib.validD_nil] at hv
   rw [← hv,if_pos rfl,← ha] at eS
   have ea:List.take acc.length (List.map iR acc)=List.map iR acc:=take_map iR acc
   exact F3 q eS ea
  ·have k1:p < B.length:=by simp only [decide_eq_true_eq] at q; omega
   have hne:B.drop p≠[]:=by
    intro e
    have:=congrArg List.length e
    simp only [List.length_drop,List.length_nil] at this
    omega
   have hw:=Lib.decodeL_width (B.drop p)
   have hc:=decodeL_bound (B.drop p)
   have hle:=Lib.decodeL_le _ hne
   rw [List.length_drop] at hle
   rw [signs_step hne,List.drop_drop] at ha
   rw [Lib.validD_step _ hne,List.drop_drop] at hv
   have eg:getSign B p=match signAt (B.drop p) with | some d=>((d.1:Int),(p:Int) + (d.2:Nat),true) | none=>(0,0,false):=by
    rw [getSign,if_pos (by omega)]; rfl
   refine G1 q ?_
   refine C0 (c_D9 B p (by omega)) ?_
   by_cases hb:(Lib.decodeL (B.drop p)).1=65533∧(Lib.decodeL (B.drop p)).2=1
   ·rw [signAt,if_pos hb] at eg
    rw [if_pos hb] at hv
    rw [← hv] at eS
    exact F2 eg eS
   ·rw [signAt,if_neg hb] at eg
    rw [if_neg hb] at hv
    generalize Lib.decodeL (B.drop p)=d at hw hc hle ha hv eg
    have ea:List.take acc.length (List.map iR acc)=List.map iR acc:=take_map iR acc
    have eb:List.map iR acc++[[Tr.pv (Value.int .i64 ((d.1:Nat):Int))]]=List.map iR (acc++[((d.1:Nat):Int)]):=by simp
    refine G3 eg ea eb ?_
    refine ⟨(p + d.2,acc++[((d.1:Nat):Int)]),?_,⟨by omega,by simp only [List.length_append,List.length_cons,List.length_nil]; omega,by rw [← ha]; simp,hv⟩,by simp only; omega⟩
    simp only [List.length_append]
    rfl
def x_C6:FnX:=⟨37,[.tmp 6,.tmp 7],
  .q [.op 6 (.mv (.k (.one (.nils 1)))),.F 7]
 (.seq (.q [.m 10 0]
 (.block 0 (.q [.B 12 .eql 10 0,.m 11 12]
 (.cond 11 (.q [.m 13 1,.m 14 2,.c 15 186 [13,14],.m 6 15,.T 7]
 .ret) (.q [.B 17 .eql 10 5,.m 16 17]
 (.c 16 (.q [.m 18 1,.m 19 2,.c 20 370 [18,19],.e 21 20 0,.e 22 20 1,.m 6 21,.m 7 22]
 .ret)))))))
 (.q [.m 24 0,.m 25 2,.c 26 371 [24,25],.m 23 26,.e 27 23 0,.e 28 23 1,.m 8 27,.m 9 28]
 (.seq (.q [.m 29 9,.N 30 29]
 (.c 30 (.q [.m 31 1,.m 6 31,.F 7]
 .ret)))
 (.q [.m 32 1,.m 33 8,.op 34 (.conv (.int .u8) (.t 33)),.op 35 (.bslice 1 [(.t 34)]),.op 36 (.app 1 1 (.t 32) (.t 35)),.m 6 36,.T 7]
 .ret))))⟩
theorem r_C6 {Te:TE} (c_Ay:C_Ay Te) (c_Av:C_Av Te) (c_B9:C_B9 Te):C_C6 (RF Te x_C6):=by
 intro cs b n hb
 refine X0 x_C6.eq_1 ?_
 cases h:(cs==0)
 ·cases h5:(cs==5)
  ·have el:putLeft cs b n = .no ():=by rw [putLeft,h,h5]; rfl
   refine G2 h h5 ?_
   refine C0 (c_B9 _ _) ?_
   cases g:(signByte cs n).2
   ·have e:=putIn_no h h5 g b
    exact F3 g e el
   ·have e:=putIn_yes h h5 g b
    try simp -implicitDefEqProofs (maxSteps:=1000000) only [go_sem,g,mkU_wrap,app1B,take1B,e,el,take_rows]
    repeat refine ⟨sc,?_⟩
    try exact sf
    try rfl
  ·have el:putLeft cs b n=slT true 1 uR b:=by rw [putLeft,h,h5]; rfl
   have e:=putIn_euc h h5 b n
   refine G2 h h5 ?_
   exact D2 (c_Av b n hb) e el
 ·have el:putLeft cs b n=slT true 1 uR b:=by rw [putLeft,h]; rfl
  have e:=putIn_utf h b n
  refine G1 h ?_
  exact D2 (c_Ay b n hb) e el
def x_G7:FnX:=⟨43,[.tmp 6,.tmp 7],
  .q [.op 6 (.mv (.k (.one (.nils 1)))),.F 7]
 (.seq (.q [.m 10 0]
 (.block 0 (.q [.B 12 .eql 10 0,.m 11 12]
 (.cond 11 (.q [.m 13 1,.m 14 2,.c 15 189 [13,14],.m 16 2,.c 17 275 [16],.m 6 15,.m 7 17]
 .ret) (.q [.B 19 .eql 10 5,.m 18 19]
 (.c 18 (.q [.m 20 1,.m 21 2,.c 22 321 [20,21],.e 23 22 0,.e 24 22 1,.m 6 23,.m 7 24]
 .ret)))))))
 (.q [.m 26 0,.m 27 2,.c 28 322 [26,27],.m 25 28,.e 29 25 0,.e 30 25 1,.m 8 29,.m 9 30]
 (.seq (.q [.m 31 9,.N 32 31]
 (.c 32 (.q [.op 33 (.bslice 1 []),.m 34 1,.op 35 (.app 1 1 (.t 33) (.t 34)),.m 6 35,.F 7]
 .ret)))
 (.q [.op 36 (.bslice 1 []),.m 37 1,.op 38 (.app 1 1 (.t 36) (.t 37)),.m 39 8,.op 40 (.conv (.int .u8) (.t 39)),.op 41 (.bslice 1 [(.t 40)]),.op 42 (.app 1 1 (.t 38) (.t 41)),.m 6 42,.T 7]
 .ret))))⟩
theorem r_G7 {Te:TE} (c_Ds:C_Ds Te) (c_E3:C_E3 Te) (c_Dp:C_Dp Te) (c_E2:C_E2 Te):C_G7 (RF Te x_G7):=by
 intro cs b n hb hn
 refine X0 x_G7.eq_1 ?_
 cases h:(cs==0)
 ·cases h5:(cs==5)
  ·refine G2 h h5 ?_
   refine C0 (c_E2 _ _) ?_
   cases g:(signByte cs n).2
   ·have e:=putIn_no h h5 g b
    exact F2 g e
   ·have e:=putIn_yes h h5 g b
    try simp -implicitDefEqProofs (maxSteps:=1000000) only [go_sem,g,mkU_wrap,app1B,take1B,e,take_rows]
    repeat refine ⟨sc,?_⟩
    try exact sf
    try rfl
  ·have e:=putIn_euc h h5 b n
   refine G2 h h5 ?_
   exact D1 (c_Dp b n hb) e
 ·have e:=putIn_utf h b n
  refine G1 h ?_
  refine C0 (c_Ds b n hb) ?_
  exact D2 (c_E3 n) hn e
def x_Eg:FnX:=⟨53,[],
  .seq (.q [.m 6 0,.op 7 (.nilc (.t 6)),.f 8 7 3,.l 9 8,.m 10 9,.z 10 (.m 11 1),.z 10 (.m 12 0),.z 10 (.op 13 (.nilc (.t 12))),.z 10 (.f 14 13 0),.z 10 (.l 15 14),.z 10 (.n 16 15),.z 10 (.B 17 .sub 16 1),.z 10 (.op 18 (.call 120 [0,0,0] [(.t 11),(.i 0),(.t 17)])),.z 10 (.N 19 18),.r 20 10 19,.m 21 20,.z 21 (.m 22 2),.z 21 (.n 23 22),.z 21 (.B 24 .gtr 23 120),.r 25 21 24,.m 26 25,.z 26 (.m 27 0),.z 26 (.op 28 (.nilc (.t 27))),.z 26 (.f 29 28 1),.z 26 (.l 30 29),.z 26 (.n 31 30),.z 26 (.B 32 .geq 31 40),.r 33 26 32,.m 34 33,.z 34 (.m 35 0),.z 34 (.op 36 (.call 281 [6] [(.t 35)])),.z 34 (.N 37 36),.r 38 34 37]
 (.c 38 .ret))
 (.draw [.m 39 0,.m 40 0,.op 41 (.nilc (.t 40)),.f 42 41 1,.l 43 42,.m 44 1,.op 45 (.bslice 1 []),.m 46 2,.op 47 (.app 1 1 (.t 45) (.t 46)),.op 48 (.build [.i 0,.nils 1] [(0,1,(.t 44)),(1,1,(.t 47))]),.op 49 (.bslice 2 [(.t 48)]),.op 50 (.app 2 32 (.t 43) (.t 49)),.op 51 (.nilc (.t 39)),.f 52 51 1,.s 100001 1 52 50] [[],[],[1],[2],[3],[],[],[],[6,7],[5,8],[9],[4,10,8],[0,0,1,2,3,4,5,6,7,8,9,10,11],[12,0,1,2,3,4,5,6,7,8,9,10,11],[13,11,11,0,1,2,3,4,5,6,7,8,9,10,11]])⟩
theorem r_Eg {Te:TE} (c_Fo:C_Fo Te) (c_Ef:C_Ef Te):C_Eg (RF Te x_Eg):=by
 intro d n b hd hb
 obtain ⟨hl,hc⟩:=hd
 have ws:IntKind.i64.wrap ((d.Secs.length:Int) - 1)=(d.Secs.length:Int) - 1:=IntWalk.i64_in _ (by omega)
 refine X0 x_Eg.eq_1 ?_
 cases g1:d.Down
 rotate_left
 ·have e:=full_down (n:=n) (b:=b) g1
  try simp -implicitDefEqProofs (maxSteps:=1000000) only [go_sem,g1,e,take_all,DevV.enc]
  repeat refine ⟨sc,?_⟩
  try exact sf
  try rfl
 refine G2 g1 ws ?_
 refine C0 (c_Fo _ _ _) ?_
 cases g2:win n 0 ((d.Secs.length:Int) - 1)
 ·have e:=full_win (b:=b) g2
  try simp -implicitDefEqProofs (maxSteps:=1000000) only [go_sem,e,take_all,g1,DevV.enc]
  repeat refine ⟨sc,?_⟩
  try exact sf
  try rfl
 cases g3:decide ((b.length:Int) > 120)
 rotate_left
 ·have e:=full_len (d:=d) (n:=n) g3
  try simp -implicitDefEqProofs (maxSteps:=1000000) only [go_sem,g3,e,take_all,g1,DevV.enc]
  repeat refine ⟨sc,?_⟩
  try exact sf
  try rfl
 cases g4:decide ((d.Cache.length:Int)≥40)
 rotate_left
 ·have e:=full_cache (n:=n) (b:=b) g4
  try simp -implicitDefEqProofs (maxSteps:=1000000) only [go_sem,g3,g4,e,take_all,g1,DevV.enc]
  repeat refine ⟨sc,?_⟩
  try exact sf
  try rfl
 have e:=not_full g1 g2 g3 g4
 refine G2 g3 g4 ?_
 have tb:=c_Ef d
 simp only [DevV.enc,g1] at tb
 have bc:=burn_cache d
 have g40:d.burn.Cache.length < 40:=by rw [bc]; simp only [decide_eq_false_iff_not] at g4; omega
 cases g6:(d.Fuse==0)
 ·have g7:¬ d.Fuse=0:=by simpa using g6
  rw [if_neg g7] at e
  have ea:=app1W d.burn.Cache ⟨n,b⟩
  have et:List.take (d.burn.Cache.length + 1) (List.map (WrV.enc true) (d.burn.Cache++[⟨n,b⟩]))=List.map (WrV.enc true) (d.burn.Cache++[⟨n,b⟩]):=List.take_of_length_le (by simp)
  refine .of (tb) ?_
  try simp -implicitDefEqProofs (maxSteps:=1000000) only [go_sem,g6,take_all,take_rows,ea,et,e,g1,DevV.put,DevV.enc]
  repeat refine ⟨sc,?_⟩
  try exact sf
  try rfl
 ·have g7:d.Fuse=0:=by simpa using g6
  rw [if_pos g7] at e
  refine .of (tb) ?_
  try simp -implicitDefEqProofs (maxSteps:=1000000) only [go_sem,g6,take_all,e,g1,DevV.enc]
  repeat refine ⟨sc,?_⟩
  try exact sf
  try rfl
def x_C1:FnX:=⟨18,[.tmp 2],
  .q [.op 2 (.mv (.k (.one (.nils 1))))]
 (.q [.op 6 (.bslice 1 []),.m 3 6]
 (.seq (.q [.m 7 0,.n 8 7,.i 9 0]
 (.block 0 (.loop [3,7,8,9] (.q [.b 10 .lss 9 8]
 (.seq (.cond 10 .skip (.exit 0))
 (.seq (.block 1 (.q [.x 11 1 7 9,.l 12 11,.m 5 12]
 (.reg [.m 13 3,.m 14 5,.op 15 (.app 1 1 (.t 13) (.t 14)),.m 3 15])))
 (.reg [.B 16 .add 9 1,.m 9 16])))))))
 (.norm [3] (.q [.m 17 3,.m 2 17]
 .ret))))⟩
theorem r_C1 {Te:TE}:C_C1 (RF Te x_C1):=by
 intro ps h h2
 refine run0 ?_
 simp -implicitDefEqProofs only [x_C1,go_sem]
 refine loop_of (σ:=Nat×List UInt8) (fun x=>⟨[(3,.one (.rf 19 0 [] 1 0 x.2.length)),(7,.one (.ro 1 (ps.map (bytesR false)))),(8,.one (.pv (.int .i64 ps.length))),(9,.one (.pv (.int .i64 x.1)))],[],[(0,[slT false 1 (bytesR false) ps]),(19,[slT true 1 uR x.2])]⟩) (fun x=>x.1≤ps.length∧x.2=(ps.take x.1).flatten) (fun x=>ps.length - x.1) (0,[]) ?_ ⟨Nat.zero_le _,rfl⟩ ?_
 ·simp -implicitDefEqProofs only [go_sem]; rfl
 ·rintro ⟨i,a⟩ ⟨hi,he⟩
  simp only at hi he
  simp -implicitDefEqProofs only [go_sem]
  refine ⟨fun h=>?_,fun h=>?_⟩
  ·have hi':i < ps.length:=by simp only [decide_eq_true_eq] at h; omega
   simp -implicitDefEqProofs only [go_sem,List.getElem?_eq_getElem hi']
   have hlen:a.length + ps[i].length≤ps.flatten.length:=by
    rw [he,← List.length_append]
    have e:=List.take_succ_eq_append_getElem hi'
    have:(ps.take i).flatten++ps[i]=(ps.take (i + 1)).flatten:=by rw [e,List.flatten_append]; simp
    rw [this]
    have h5:ps.flatten=(ps.take (i + 1)).flatten++(ps.drop (i + 1)).flatten:=by rw [← List.flatten_append,List.take_append_drop]
    rw [h5,List.length_append]
    omega
   refine ⟨⟨decide_eq_true (by omega),decide_eq_true (by omega)⟩,(i + 1,a++ps[i]),?_,⟨hi',?_⟩,by simp only; omega⟩
   ·rw [IntWalk.i64_in _ (by omega)]
    rw [show List.map uR a++List.map uR ps[i]=List.map uR (a++ps[i]) from List.map_append.symm,show a.length + ps[i].length=(a++ps[i]).length from List.length_append.symm]
    rfl
   ·rw [he,List.take_succ_eq_append_getElem hi',List.flatten_append]
    simp
  ·have hle:ps.length≤i:=by simp only [decide_eq_false_iff_not] at h; omega
   rw [List.take_of_length_le hle] at he
   subst he
   simp -implicitDefEqProofs only [go_sem]
def x_Be:FnX:=⟨29,[.tmp 2],
  .q [.i 2 0]
 (.q [.i 3 65535]
 (.seq (.q [.m 6 0,.n 7 6,.i 8 0]
 (.block 0 (.loop [3,6,7,8] (.q [.b 9 .lss 8 7]
 (.seq (.cond 9 .skip (.exit 0))
 (.seq (.block 1 (.q [.x 10 1 6 8,.l 11 10,.m 5 11]
 (.q [.m 12 3,.m 13 5,.op 14 (.conv (.int .i64) (.t 13)),.op 15 (.bin .mul (.i 256) (.t 14)),.b 16 .xor 12 15,.m 3 16]
 (.q [.i 17 0]
 (.block 2 (.loop [3,6,7,8,17] (.q [.B 18 .lss 17 8]
 (.seq (.cond 18 .skip (.exit 2))
 (.seq (.block 3 (.q [.m 19 3,.B 20 .mul 19 2,.m 3 20]
 (.q [.m 21 3,.B 22 .gtr 21 65535]
 (.c 22 (.reg [.m 23 3,.B 24 .xor 23 69665,.m 3 24])))))
 (.reg [.B 25 .add 17 1,.m 17 25]))))))))))
 (.norm [3,6,7,8] (.reg [.B 26 .add 8 1,.m 8 26]))))))))
 (.norm [3] (.q [.m 27 3,.B 28 .and 27 65535,.m 2 28]
 .ret))))⟩
theorem r_Be {Te:TE}:C_Be (RF Te x_Be):=by
 intro l h
 refine run0 ?_
 simp -implicitDefEqProofs only [x_Be,go_sem]
 refine loop_of (σ:=Nat×Nat) (fun x=>⟨[(3,.one (.pv (.int .i64 x.2))),(6,.one (.ro 1 (l.map uR))),(7,.one (.pv (.int .i64 l.length))),(8,.one (.pv (.int .i64 x.1)))],[],[(0,[slT false 1 uR l])]⟩) (fun x=>x.1≤l.length∧x.2 < 65536∧x.2=(l.take x.1).foldl sumByte 65535) (fun x=>l.length - x.1) (0,65535) ?_ ⟨Nat.zero_le _,by decide,rfl⟩ ?_
 ·simp -implicitDefEqProofs only [go_sem]; rfl
 ·rintro ⟨i,s⟩ ⟨hi,hs,he⟩
  simp only at hi hs he
  simp -implicitDefEqProofs only [go_sem]
  refine ⟨fun h=>?_,fun h=>?_⟩
  ·have hi':i < l.length:=by simp only [decide_eq_true_eq] at h; omega
   have hb:=l[i].toNat_lt
   have e1:IntKind.i64.wrap (l[i].toNat:Int)=(l[i].toNat:Int):=IntWalk.i64_in _ (by omega)
   have e2:IntKind.i64.wrap (256 * (l[i].toNat:Int))=((256 * l[i].toNat:Nat):Int):=by rw [IntWalk.i64_in _ (by omega)]; rfl
   simp -implicitDefEqProofs only [go_sem,List.getElem?_eq_getElem hi',e1,e2,xor_nat s (256 * l[i].toNat) (by omega) (by omega)]
   have hx:=sumX_lt l[i] hs
   have e9:sumByte s l[i]=sumBits 8 (s ^^^ (256 * l[i].toNat)):=rfl
   generalize s ^^^ (256 * l[i].toNat)=S at *
   refine loop_of (σ:=Nat×Nat) (fun x=>⟨[(3,.one (.pv (.int .i64 x.2))),(6,.one (.ro 1 (l.map uR))),(7,.one (.pv (.int .i64 l.length))),(8,.one (.pv (.int .i64 i))),(17,.one (.pv (.int .i64 x.1)))],[],[(0,[slT false 1 uR l])]⟩) (fun x=>x.1≤8∧x.2=sumBits x.1 S) (fun x=>8 - x.1) (0,S) ?_ ⟨Nat.zero_le _,rfl⟩ ?_
   ·simp -implicitDefEqProofs only [go_sem]; rfl
   ·rintro ⟨j,v⟩ ⟨hj,hv⟩
    simp only at hj hv
    have hz:v < 65536:=by rw [hv]; exact sumBits_lt j hx
    have e3:IntKind.i64.wrap ((v:Int) * 2)=((2 * v:Nat):Int):=by rw [IntWalk.i64_in _ (by omega)]; omega
    have e4:=xor_nat (2 * v) 69665 (by omega) (by decide)
    have e5:((69665:Nat):Int)=69665:=rfl
    rw [e5] at e4
    have e6:sumBits (j + 1) S=sumBit v:=by rw [hv]; rfl
    simp -implicitDefEqProofs only [go_sem]
    refine ⟨fun h=>?_,fun h=>?_⟩
    ·have hj':j < 8:=by simp only [decide_eq_true_eq] at h; omega
     simp -implicitDefEqProofs only [go_sem,e3]
     refine ⟨fun h6=>?_,fun h6=>?_⟩
     ·simp -implicitDefEqProofs only [go_sem,e4]
      refine ⟨(j + 1,2 * v ^^^ 69665),by rw [IntWalk.i64_in _ (by omega)]; rfl,⟨hj',?_⟩,by simp only; omega⟩
      rw [e6,sumBit,if_pos (by simp only [decide_eq_true_eq] at h6; omega)]
     ·refine ⟨(j + 1,2 * v),by rw [IntWalk.i64_in _ (by omega)]; rfl,⟨hj',?_⟩,by simp only; omega⟩
      rw [e6,sumBit,if_neg (by simp only [decide_eq_false_iff_not] at h6; omega)]
    ·have hj':j=8:=by simp only [decide_eq_false_iff_not] at h; omega
     subst hj'
     rw [← e9] at hv
     refine ⟨(i + 1,v),by rw [IntWalk.i64_in _ (by omega)]; rfl,⟨hi',hz,?_⟩,by simp only; omega⟩
     simp only
     rw [List.take_succ_eq_append_getElem hi',List.foldl_append,← he,hv,List.foldl_cons,List.foldl_nil]
  ·have hle:l.length≤i:=by simp only [decide_eq_false_iff_not] at h; omega
   rw [List.take_of_length_le hle] at he
   have e7:=and_nat s 65535 (by omega) (by decide)
   have e8:((65535:Nat):Int)=65535:=rfl
   rw [e8] at e7
   simp -implicitDefEqProofs only [go_sem,e7,sum,← he]
def x_Fc:FnX:=⟨13,[.cell 4 (some 8)],
  .q [.v 2 0,.op 4 (.alloc [.i 0,.i 0,.i 0,.i 0,.e,.e,.i 0,.i 0])]
 (.q [.m 5 1,.f 6 2 2,.l 7 6,.f 8 2 1,.l 9 8,.f 10 2 3,.l 11 10,.op 12 (.build [.i 0,.i 0,.i 0,.i 0,.e,.e,.i 0,.i 0] [(0,1,(.t 5)),(1,1,(.t 7)),(2,1,(.t 9)),(3,1,(.t 11))]),.s 100001 8 4 12]
 .ret)⟩
theorem r_Fc {Te:TE}:C_Fc (RF Te x_Fc):=by
 intro m k
 refine X0 x_Fc.eq_1 ?_
 try rfl
end Go.X

