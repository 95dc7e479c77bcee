/- Texts: CVf_3 CVr CVzb CVzr CVp CVzt_2 CVb_2 CVla CVl CVc_2 CK_3. -/
import Derived.Test.YtmmjaijeeeilcaaGreatDoorB04
set_option linter.unusedVariables false
set_option linter.unusedSimpArgs false
namespace Go.X
set_option maxRecDepth 100000
set_option maxHeartbeats 8000000
def x_s_TabOk:FnX:=⟨82,[.tmp 2],
  .q [.v 1 0,.F 2]
 (.seq (.q [.i 3 0]
 (.block 0 (.loop [1,3] (.seq (.q [.m 5 3,.f 6 1 0,.l 7 6,.n 8 7,.b 9 .lss 5 8]
 (.cond 9 .skip (.exit 0)))
 (.seq (.block 1 (.seq (.draw [.f 12 1 0,.l 13 12,.m 14 3,.x 15 7 13 14,.L 16 7 15,.c 17 289 [16],.N 18 17,.m 19 18,.z 19 (.m 20 3),.z 19 (.B 21 .gtr 20 0),.z 19 (.m 22 21),.y 22 (.f 23 1 0),.y 22 (.l 24 23),.y 22 (.m 25 3),.y 22 (.B 26 .sub 25 1),.y 22 (.x 27 7 24 26),.y 22 (.f 28 27 0),.y 22 (.l 29 28),.y 22 (.f 30 1 0),.y 22 (.l 31 30),.y 22 (.m 32 3),.y 22 (.x 33 7 31 32),.y 22 (.f 34 33 0),.y 22 (.l 35 34),.y 22 (.b 36 .geq 29 35),.z 19 (.a 37 22 36),.r 38 19 37] [[],[0],[],[1,2],[3],[4],[5],[6,5],[7],[8,7],[9,7,7],[10],[11,10],[10],[13,10],[12,14,10],[15,10],[16,10],[10],[18,10],[10],[19,20,10],[21,10],[22,10],[17,23,10],[10,24,7],[7,25]])
 (.c 38 (.q [.F 2]
 .ret))))
 (.reg [.m 10 3,.B 11 .add 10 1,.m 3 11]))))))
 (.norm [1] (.seq (.q [.i 4 0]
 (.block 2 (.loop [1,4] (.seq (.q [.m 39 4,.f 40 1 2,.l 41 40,.n 42 41,.b 43 .lss 39 42]
 (.cond 43 .skip (.exit 2)))
 (.seq (.block 3 (.seq (.draw [.f 46 1 2,.l 47 46,.m 48 4,.x 49 3 47 48,.L 50 3 49,.c 51 292 [50],.N 52 51,.m 53 52,.z 53 (.m 54 4),.z 53 (.B 55 .gtr 54 0),.z 53 (.m 56 55),.y 56 (.f 57 1 2),.y 56 (.l 58 57),.y 56 (.m 59 4),.y 56 (.B 60 .sub 59 1),.y 56 (.x 61 3 58 60),.y 56 (.f 62 61 0),.y 56 (.l 63 62),.y 56 (.f 64 1 2),.y 56 (.l 65 64),.y 56 (.m 66 4),.y 56 (.x 67 3 65 66),.y 56 (.f 68 67 0),.y 56 (.l 69 68),.y 56 (.b 70 .geq 63 69),.z 53 (.a 71 56 70),.r 72 53 71] [[],[0],[],[1,2],[3],[4],[5],[6,5],[7],[8,7],[9,7,7],[10],[11,10],[10],[13,10],[12,14,10],[15,10],[16,10],[10],[18,10],[10],[19,20,10],[21,10],[22,10],[17,23,10],[10,24,7],[7,25]])
 (.c 72 (.q [.F 2]
 .ret))))
 (.reg [.m 44 4,.B 45 .add 44 1,.m 4 45]))))))
 (.norm [1] (.q [.f 73 1 0,.l 74 73,.n 75 74,.B 76 .leq 75 8,.m 77 76,.y 77 (.f 78 1 1),.y 77 (.l 79 78),.y 77 (.op 80 (.call 120 [0,0,0] [(.t 79),(.i 0),(.i 7)])),.a 81 77 80,.m 2 81]
 .ret)))))⟩
theorem r_s_TabOk {Te:TE} (c_s_RowOk:C_s_RowOk Te) (c_s_l12Mark:C_s_l12Mark Te) (c_s_l1In:C_s_l1In Te):C_s_TabOk (RF Te x_s_TabOk):=by
 intro t h
 obtain ⟨⟨hl,hR⟩,hM⟩:=h
 refine X0 x_s_TabOk.eq_1 ?_
 refine loop_of (σ:=Nat) (fun i=>⟨[(1,.bp 1 0),(3,.one (.pv (.int .i64 i)))],[(1,[.ro 7 (t.Rows.map (RowV.enc false)),.pv (.int .i64 t.Phase),.ro 3 (t.Marks.map MarkV.row)])],[(0,t.enc false)]⟩) (fun i=>i≤t.Rows.length∧∀ j,j < i→rowGood t.Rows j=true) (fun i=>t.Rows.length - i) 0 ?_ ⟨Nat.zero_le _,fun j hj=>absurd hj (Nat.not_lt_zero _)⟩ ?_
 ·simp -implicitDefEqProofs (maxSteps:=1000000) only [go_sem]
  try rfl
 ·rintro i ⟨hi,hp⟩
  cases q:decide ((i:Int) < (t.Rows.length:Int))
  ·have eR:=rng_end (f:=rowGood t.Rows) (show t.Rows.length≤i by simp only [decide_eq_false_iff_not] at q; omega) hp
   refine G1 q ?_
   refine loop_of (σ:=Nat) (fun i=>⟨[(1,.bp 1 0),(4,.one (.pv (.int .i64 i)))],[(1,[.ro 7 (t.Rows.map (RowV.enc false)),.pv (.int .i64 t.Phase),.ro 3 (t.Marks.map MarkV.row)])],[(0,t.enc false)]⟩) (fun i=>i≤t.Marks.length∧∀ j,j < i→markGood t.Marks j=true) (fun i=>t.Marks.length - i) 0 ?_ ⟨Nat.zero_le _,fun j hj=>absurd hj (Nat.not_lt_zero _)⟩ ?_
   ·simp -implicitDefEqProofs (maxSteps:=1000000) only [go_sem]
    try rfl
   ·rintro i ⟨hi,hp⟩
    cases q:decide ((i:Int) < (t.Marks.length:Int))
    ·have eM:=rng_end (f:=markGood t.Marks) (show t.Marks.length≤i by simp only [decide_eq_false_iff_not] at q; omega) hp
     refine G1 q ?_
     cases gl:decide ((t.Rows.length:Int)≤8)
     ·have e:t.ok=false:=by simp only [TabV.ok,gl,Bool.and_false,Bool.false_and]
      exact F2 gl e
     ·have e:t.ok=win t.Phase 0 7:=by simp only [TabV.ok,eR,eM,gl,Bool.true_and]
      refine G1 gl ?_
      exact D1 (c_s_l1In _ _ _) e
    ·have k1:i < t.Marks.length:=by simp only [decide_eq_true_eq] at q; omega
     cases i with
     | zero =>
      have z:decide (((0:Nat):Int) > 0)=false:=rfl
      have good0:=markGood_zero k1
      refine G3 q (List.getElem?_eq_getElem k1) z ?_
      refine C0 (c_s_l12Mark t.Marks[0]) ?_
      cases g:t.Marks[0].ok
      ·have e:t.ok=false:=by simp only [TabV.ok,rng_not k1 (good0.trans g),Bool.and_false,Bool.false_and]
       exact F1 e
      ·refine G1 z ?_
       refine ⟨1,by rw [IntWalk.i64_in _ (by omega)]; rfl,⟨k1,rng_step hp (good0.trans g)⟩,by omega⟩
     | succ j =>
      have k0:j < t.Marks.length:=by omega
      have z:decide (((j + 1:Nat):Int) > 0)=true:=decide_eq_true (by omega)
      have ew:IntKind.i64.wrap (((j + 1:Nat):Int) - 1)=(j:Int):=by rw [IntWalk.i64_in _ (by omega)]; omega
      have good1:=markGood_succ k1
      refine G3 q (List.getElem?_eq_getElem k1) z ?_
      refine C0 (c_s_l12Mark t.Marks[j + 1]) ?_
      cases g:t.Marks[j + 1].ok
      ·have gg:markGood t.Marks (j + 1)=false:=by rw [good1,g,Bool.false_and]
       have e:t.ok=false:=by simp only [TabV.ok,rng_not k1 gg,Bool.and_false,Bool.false_and]
       exact F1 e
      ·cases g2:decide (t.Marks[j].Who≥t.Marks[j + 1].Who)
       ·have gg:markGood t.Marks (j + 1)=true:=by rw [good1,g,g2]; rfl
        try simp -implicitDefEqProofs (maxSteps:=1000000) only [go_sem,z,ew,List.getElem?_eq_getElem k0,List.getElem?_eq_getElem k1,g2]
        repeat refine ⟨sc,?_⟩
        try exact sf
        refine ⟨j + 2,by rw [IntWalk.i64_in _ (by omega)]; rfl,⟨k1,rng_step hp gg⟩,by omega⟩
       ·have gg:markGood t.Marks (j + 1)=false:=by rw [good1,g2]; simp only [Bool.not_true,Bool.and_false]
        have e:t.ok=false:=by simp only [TabV.ok,rng_not k1 gg,Bool.and_false,Bool.false_and]
        try simp -implicitDefEqProofs (maxSteps:=1000000) only [go_sem,z,ew,List.getElem?_eq_getElem k0,List.getElem?_eq_getElem k1,g2,e]
        repeat refine ⟨sc,?_⟩
        try exact sf
  ·have k1:i < t.Rows.length:=by simp only [decide_eq_true_eq] at q; omega
   cases i with
   | zero =>
    have z:decide (((0:Nat):Int) > 0)=false:=rfl
    have good0:=rowGood_zero k1
    refine G3 q (List.getElem?_eq_getElem k1) z ?_
    refine C0 (c_s_RowOk t.Rows[0] (hR _ (List.getElem_mem k1))) ?_
    cases g:t.Rows[0].ok
    ·have e:t.ok=false:=by simp only [TabV.ok,rng_not k1 (good0.trans g),Bool.false_and]
     exact F1 e
    ·refine G1 z ?_
     refine ⟨1,by rw [IntWalk.i64_in _ (by omega)]; rfl,⟨k1,rng_step hp (good0.trans g)⟩,by omega⟩
   | succ j =>
    have k0:j < t.Rows.length:=by omega
    have z:decide (((j + 1:Nat):Int) > 0)=true:=decide_eq_true (by omega)
    have ew:IntKind.i64.wrap (((j + 1:Nat):Int) - 1)=(j:Int):=by rw [IntWalk.i64_in _ (by omega)]; omega
    have good1:=rowGood_succ k1
    refine G3 q (List.getElem?_eq_getElem k1) z ?_
    refine C0 (c_s_RowOk t.Rows[j + 1] (hR _ (List.getElem_mem k1))) ?_
    cases g:t.Rows[j + 1].ok
    ·have gg:rowGood t.Rows (j + 1)=false:=by rw [good1,g,Bool.false_and]
     have e:t.ok=false:=by simp only [TabV.ok,rng_not k1 gg,Bool.false_and]
     exact F1 e
    ·cases g2:Op.bytesLess t.Rows[j].Key.toList t.Rows[j + 1].Key.toList
     ·have gg:rowGood t.Rows (j + 1)=false:=by rw [good1,g2,Bool.and_false]
      have e:t.ok=false:=by simp only [TabV.ok,rng_not k1 gg,Bool.false_and]
      try simp -implicitDefEqProofs (maxSteps:=1000000) only [go_sem,z,ew,List.getElem?_eq_getElem k0,List.getElem?_eq_getElem k1,g2,e]
      repeat refine ⟨sc,?_⟩
      try exact sf
     ·have gg:rowGood t.Rows (j + 1)=true:=by rw [good1,g,g2]; rfl
      try simp -implicitDefEqProofs (maxSteps:=1000000) only [go_sem,z,ew,List.getElem?_eq_getElem k0,List.getElem?_eq_getElem k1,g2]
      repeat refine ⟨sc,?_⟩
      try exact sf
      refine ⟨j + 2,by rw [IntWalk.i64_in _ (by omega)]; rfl,⟨k1,rng_step hp gg⟩,by omega⟩
def x_i_withRow:FnX:=⟨48,[.tmp 4],
  .q [.v 3 1,.op 4 (.mv (.k (.one (.nils 7))))]
 (.q [.op 9 (.bslice 7 []),.m 5 9]
 (.q [.F 6]
 (.seq (.q [.m 10 0,.n 11 10,.i 12 0]
 (.block 0 (.loop [3,5,6,10,11,12] (.q [.b 13 .lss 12 11]
 (.seq (.cond 13 .skip (.exit 0))
 (.seq (.block 1 (.q [.x 14 7 10 12,.L 15 7 14,.op 8 (.alloc [.e,.i 0,.nils 1,.i 0,.nils 1,.i 0,.F]),.s 100001 7 8 15]
 (.seq (.q [.m 16 6,.N 17 16,.m 18 17,.y 18 (.f 19 8 0),.y 18 (.l 20 19),.y 18 (.f 21 3 0),.y 18 (.l 22 21),.y 18 (.b 23 .geq 20 22),.a 24 18 23]
 (.c 24 (.q [.m 25 5,.L 26 7 3,.c 27 252 [26],.op 28 (.bslice 7 [(.t 27)]),.op 29 (.app 7 96 (.t 25) (.t 28)),.m 5 29]
 (.reg [.T 6]))))
 (.q [.f 30 8 0,.l 31 30,.f 32 3 0,.l 33 32,.b 34 .neq 31 33]
 (.c 34 (.reg [.m 35 5,.L 36 7 8,.op 37 (.bslice 7 [(.t 36)]),.op 38 (.app 7 96 (.t 35) (.t 37)),.m 5 38]))))))
 (.reg [.B 39 .add 12 1,.m 12 39])))))))
 (.norm [3,5,6] (.seq (.q [.m 40 6,.N 41 40]
 (.c 41 (.reg [.m 42 5,.L 43 7 3,.c 44 252 [43],.op 45 (.bslice 7 [(.t 44)]),.op 46 (.app 7 96 (.t 42) (.t 45)),.m 5 46])))
 (.q [.m 47 5,.m 4 47]
 .ret))))))⟩
theorem r_i_withRow {Te:TE} (c_i_copyRow:C_i_copyRow Te):C_i_withRow (RF Te x_i_withRow):=by
 intro l r h hr
 refine X0 x_i_withRow.eq_1 ?_
 refine loop_of (σ:=Nat×List RowV×Bool) (fun x=>⟨[(3,.bp 3 0),(5,.one (.rf 50 0 [] 7 0 x.2.1.length)),(6,.one (.pv (.bool x.2.2))),(10,.one (.rf 0 0 [] 7 0 l.length)),(11,.one (.pv (.int .i64 l.length))),(12,.one (.pv (.int .i64 x.1)))],[(3,[.pv (.string r.Key),.pv (.int .i64 r.Old.Tag),.ro 1 (r.Old.B.map uR),.pv (.int .i64 r.New.Tag),.ro 1 (r.New.B.map uR),.pv (.int .i64 r.Has),.pv (.bool r.Aside)])],[(0,[Tr.sl true 7 () (leftRows r l x.1)]),(1,r.enc false),(50,[slT true 7 (RowV.enc true) x.2.1])]⟩) (fun x=>x.1≤l.length∧x.2=(l.take x.1).foldl (insR r) ([],false)) (fun x=>l.length - x.1) (0,[],false) ?_ ⟨Nat.zero_le _,rfl⟩ ?_
 ·simp -implicitDefEqProofs (maxSteps:=1000000) only [go_sem,left_zero]
  try rfl
 ·rintro ⟨i,o,p⟩ ⟨hi,he⟩
  simp only at hi he
  have hol:o.length≤2 * l.length:=by
   have:=insR_le r (l.take i) ([],false)
   rw [← he] at this
   simp only [List.length_nil,List.length_take] at this
   omega
  have ea:=app1Rw o r
  have et:List.take (o.length + 1) (List.map (RowV.enc true) (o++[r]))=List.map (RowV.enc true) (o++[r]):=List.take_of_length_le (by simp)
  cases q:decide ((i:Int) < (l.length:Int))
  ·have k0:i=l.length:=by simp only [decide_eq_false_iff_not] at q; omega
   rw [k0,List.take_length] at he
   subst k0
   cases p
   ·have e:insRow l r=o++[r]:=by rw [insRow,← he]; rfl
    refine G1 q ?_
    exact D3 (c_i_copyRow r hr) e ea et
   ·have e:insRow l r=o:=by rw [insRow,← he]; rfl
    exact F2 q e
  ·have k1:i < l.length:=by simp only [decide_eq_true_eq] at q; omega
   have es:=insR_step (r:=r) k1
   rw [← he] at es
   have eg:=left_get (r:=r) k1
   have ed:(leftRows r l i).getD i []=l[i].enc true:=by rw [List.getD_eq_getElem?_getD,eg]; rfl
   have el:=left_len r l i
   have ex:=left_set (r:=r) k1
   have e1:∀ X:List T,((leftRows r l i).set i X)[i]?=some X:=fun X=>List.getElem?_set_self (by rw [el]; exact k1)
   have e2:∀ X:List T,((leftRows r l i).set i X).getD i []=X:=fun X=>by rw [List.getD_eq_getElem?_getD,e1]; rfl
   have eb:=app1Rw o l[i]
   have ec:=app1Rw (o++[r]) l[i]
   cases g2:decide (l[i].Key=r.Key) <;> cases g1:Op.bytesLess l[i].Key.toList r.Key.toList <;> cases p
   all_goals
    simp only [insR,g1,g2,Bool.not_true,Bool.not_false,Bool.and_true,Bool.and_false,Bool.or_true,Bool.or_false,Bool.true_or,Bool.false_or,Bool.true_and,Bool.false_and,if_true,if_false,Bool.false_eq_true] at es
    simp only [leftR,g2,if_true,if_false,Bool.false_eq_true] at ex
    try simp -implicitDefEqProofs (maxSteps:=1000000) only [go_sem,q,g1,g2,eg,ed,el,ex,e1,e2,List.set_set,List.length_set,take_rows,take_all,ea,eb,ec,et]
    repeat refine ⟨sc,?_⟩
   all_goals try (refine .of (c_i_copyRow r hr) ?_; try simp -implicitDefEqProofs (maxSteps:=1000000) only [go_sem,g1,g2,eg,ed,el,ex,e1,e2,List.set_set,List.length_set,take_rows,take_all,ea,eb,ec,et])
   all_goals
    repeat refine ⟨sc,?_⟩
   all_goals
    refine ⟨(i + 1,(l.take (i + 1)).foldl (insR r) ([],false)),?_,⟨k1,rfl⟩,by simp only; omega⟩
    rw [← es,IntWalk.i64_in _ (by omega)]
    try simp only [List.length_append]
    try rw [left_same k1 g2]
    rfl
def x_i_putRec:FnX:=⟨46,[.cell 6 (some 13),.tmp 7],
  .q [.v 3 0,.op 6 (.alloc [.i 0,.e,.i 0,.nils 1,.i 0,.nils 1,.i 0,.F,.e,.i 0,.i 0,.i 0,.i 0]),.i 7 0]
 (.q [.f 11 3 0,.f 12 11 4,.f 13 12 1,.l 14 13,.m 15 1,.f 16 3 9,.l 17 16,.m 18 2,.c 19 167 [14,15,17,18],.m 10 19,.e 20 10 0,.e 21 10 1,.op 8 (.alloc [.e,.i 0,.nils 1,.i 0,.nils 1,.i 0,.F]),.s 100001 7 8 20,.m 9 21]
 (.seq (.q [.m 22 9,.B 23 .eql 22 0,.m 24 23,.y 24 (.f 25 3 0),.y 24 (.f 26 25 4),.y 24 (.L 27 3 26),.y 24 (.m 28 1),.y 24 (.c 29 87 [27,28]),.y 24 (.B 30 .lss 29 0),.a 31 24 30,.m 32 31,.y 32 (.f 33 3 0),.y 32 (.f 34 33 4),.y 32 (.f 35 34 0),.y 32 (.l 36 35),.y 32 (.n 37 36),.y 32 (.B 38 .eql 37 8),.a 39 32 38]
 (.c 39 (.reg [.i 9 5])))
 (.seq (.q [.m 40 9,.B 41 .neq 40 0]
 (.c 41 (.q [.op 42 (.build [.i 0,.e,.i 0,.nils 1,.i 0,.nils 1,.i 0,.F,.e,.i 0,.i 0,.i 0,.i 0] [(0,1,(.i 4))]),.m 43 9,.s 100002 13 6 42,.m 7 43]
 .ret)))
 (.q [.L 44 7 8,.op 45 (.build [.i 0,.e,.i 0,.nils 1,.i 0,.nils 1,.i 0,.F,.e,.i 0,.i 0,.i 0,.i 0] [(0,1,(.i 1)),(1,7,(.t 44))]),.s 100003 13 6 45,.i 7 0]
 .ret))))⟩
theorem r_i_putRec {Te:TE} (c_i_RowOf:C_i_RowOf Te) (c_i_RowAt:C_i_RowAt Te):C_i_putRec (RF Te x_i_putRec):=by
 intro n key s hn hk hs
 refine X0 x_i_putRec.eq_1 ?_
 refine C0 (c_i_RowOf n.S.T.Phase key n.Cs s hk hs) ?_
 cases g1:((rowOf n.S.T.Phase key n.Cs s).2==0)
 ·have e:n.putCode key s=(rowOf n.S.T.Phase key n.Cs s).2:=by rw [NodeV.putCode,g1]; rfl
  have g2:((rowOf n.S.T.Phase key n.Cs s).2 != 0)=true:=by rw [bne_eq,g1]; rfl
  try simp -implicitDefEqProofs (maxSteps:=1000000) only [go_sem,g1,g2,e,putRecV,take_rows]
  repeat refine ⟨sc,?_⟩
  try exact sf
  try rfl
 ·have g0:(rowOf n.S.T.Phase key n.Cs s).2=0:=eq_of_beq g1
  refine G1 g1 ?_
  refine C0 (c_i_RowAt n.S.T key hn) ?_
  cases g2:decide (rowAt n.S.T.Rows key < 0)
  ·have e:n.putCode key s=0:=by rw [NodeV.putCode,g1,g2]; exact g0
   try simp -implicitDefEqProofs (maxSteps:=1000000) only [go_sem,g0,g2,e,putRecV,recRowBy,take_rows]
   repeat refine ⟨sc,?_⟩
   try exact sf
   try rfl
  ·cases g3:((n.S.T.Rows.length:Int)==8)
   ·have e:n.putCode key s=0:=by rw [NodeV.putCode,g1,g2,g3]; exact g0
    try simp -implicitDefEqProofs (maxSteps:=1000000) only [go_sem,g0,g2,g3,e,putRecV,recRowBy,take_rows]
    repeat refine ⟨sc,?_⟩
    try exact sf
    try rfl
   ·have e:n.putCode key s=5:=by rw [NodeV.putCode,g1,g2,g3]; rfl
    try simp -implicitDefEqProofs (maxSteps:=1000000) only [go_sem,g2,g3,e,putRecV,recRowBy,take_rows]
    repeat refine ⟨sc,?_⟩
    try exact sf
    try rfl
def x_i_NodePut:FnX:=⟨54,[.cell 10 (some 10),.tmp 11,.tmp 12],
  .q [.v 5 0,.op 10 (.alloc [.nils 1,.nils 2,.i 0,.F,.nils 7,.i 0,.nils 3,.i 0,.i 0,.i 0]),.i 11 0,.F 12]
 (.seq (.q [.L 16 10 5,.c 17 82 [16],.N 18 17,.m 19 18,.z 19 (.m 20 1),.z 19 (.m 21 2),.z 19 (.c 22 72 [20,21]),.z 19 (.N 23 22),.r 24 19 23]
 (.c 24 (.q [.L 25 10 5,.c 26 60 [25],.s 100001 10 10 26,.i 11 1,.F 12]
 .ret)))
 (.q [.L 28 10 5,.m 29 1,.m 30 2,.c 31 73 [28,29,30],.m 27 31,.e 32 27 0,.e 33 27 1,.m 13 32,.m 14 33]
 (.seq (.q [.m 34 14]
 (.c 34 (.q [.L 35 10 5,.c 36 60 [35],.m 37 13,.s 100002 10 10 36,.m 11 37,.F 12]
 .ret)))
 (.q [.L 39 10 5,.m 40 3,.m 41 4,.c 42 75 [39,40,41],.m 38 42,.e 43 38 0,.e 44 38 1,.op 15 (.alloc [.i 0,.e,.i 0,.nils 1,.i 0,.nils 1,.i 0,.F,.e,.i 0,.i 0,.i 0,.i 0]),.s 100003 13 15 43,.m 13 44]
 (.q [.L 45 10 5,.m 46 1,.m 47 2,.L 48 13 15,.m 49 13,.c 50 91 [45,46,47,48,49],.e 51 50 0,.e 52 50 1,.e 53 50 2,.s 100004 10 10 51,.m 11 52,.m 12 53]
 .ret)))))⟩
theorem r_i_NodePut {Te:TE} (c_i_isUp:C_i_isUp Te) (c_i_mayAsk:C_i_mayAsk Te) (c_i_copyNode:C_i_copyNode Te) (c_i_askedBefore:C_i_askedBefore Te) (c_i_putRec:C_i_putRec Te) (c_i_change:C_i_change Te):C_i_NodePut (RF Te x_i_NodePut):=by
 intro n who seq key s hn hk hs
 have hL:=hn.len (by decide)
 refine X0 x_i_NodePut.eq_1 ?_
 refine C0 (c_i_isUp n (hn.mono (by decide))) ?_
 cases g1:n.up
 ·have e:n.putIn who seq key s=(n,1,false):=by rw [NodeV.putIn,old_no (by rw [g1]; rfl)]; rfl
  refine G0 ?_
  exact D1 (c_i_copyNode n hL) e
 refine G0 ?_
 refine C0 (c_i_mayAsk _ _) ?_
 cases g2:(win who 1 9&&win seq 1 65535)
 ·have e:n.putIn who seq key s=(n,1,false):=by rw [NodeV.putIn,old_no (by rw [g1,g2]; rfl)]; rfl
  refine G1 g2 ?_
  exact D1 (c_i_copyNode n hL) e
 have eo:=old_yes g1 g2
 refine G1 g2 ?_
 refine .of (c_i_askedBefore n _ _ (by have:=hn.2.2; omega)) ?_
 try simp -implicitDefEqProofs (maxSteps:=1000000) only [go_sem]
 repeat refine ⟨sc,?_⟩
 try exact sf
 rw [← eo]
 cases g3:(n.old who seq).2
 rotate_left
 ·have e:n.putIn who seq key s=(n,(n.old who seq).1,false):=by rw [NodeV.putIn,g3]; rfl
  refine G1 g3 ?_
  exact D1 (c_i_copyNode n hL) e
 have e:n.putIn who seq key s=n.changed ((putRecV n key s).by who seq (n.putCode key s)):=by rw [NodeV.putIn,g3,putRec_by]; rfl
 refine G1 g3 ?_
 refine C0 (c_i_putRec n key s (by have:=hn.2.1.1; omega) hk hs) ?_
 exact D1 (c_i_change n who seq (putRecV n key s) (n.putCode key s) hn (putRec_in hk)) e
def x_s_l15End:FnX:=⟨29,[.cell 4 (some 10),.tmp 5,.tmp 6],
  .q [.v 2 0,.v 3 1,.op 4 (.alloc [.nils 1,.nils 2,.i 0,.F,.nils 7,.i 0,.nils 3,.i 0,.i 0,.i 0]),.i 5 0,.F 6]
 (.q [.L 9 10 2,.c 10 65 [9],.op 7 (.alloc [.nils 1,.nils 2,.i 0,.F,.nils 7,.i 0,.nils 3,.i 0,.i 0,.i 0]),.s 100001 10 7 10]
 (.q [.f 11 3 12,.l 12 11,.m 8 12]
 (.seq (.q [.m 13 8,.B 14 .neq 13 0]
 (.c 14 (.reg [.f 15 3 10,.l 16 15,.f 17 3 11,.l 18 17,.f 19 3 12,.l 20 19,.op 21 (.build [.i 0,.e,.i 0,.nils 1,.i 0,.nils 1,.i 0,.F,.e,.i 0,.i 0,.i 0,.i 0] [(0,1,(.i 4)),(10,1,(.t 16)),(11,1,(.t 18)),(12,1,(.t 20))]),.s 100002 13 3 21])))
 (.seq (.q [.f 22 7 0,.L 23 13 3,.op 24 (.call 103 [11,0] [(.t 22),(.t 23)]),.N 25 24]
 (.c 25 (.q [.L 26 10 7,.s 100003 10 4 26,.i 5 5,.F 6]
 .ret)))
 (.q [.L 27 10 7,.m 28 8,.s 100004 10 4 27,.m 5 28,.T 6]
 .ret)))))⟩
theorem r_s_l15End {Te:TE} (c_s_l15Copy:C_s_l15Copy Te) (c_s_l13Add:C_s_l13Add Te):C_s_l15End (RF Te x_s_l15End):=by
 intro n r hu hn hr
 have hL:=hn.len (by decide)
 obtain ⟨k1,k2,_⟩:=up_ok hu
 refine X0 x_s_l15End.eq_1 ?_
 refine C0 (c_s_l15Copy n hL) ?_
 cases g:(r.Code != 0)
 ·have e1:=told_self g
  refine G1 g ?_
  refine C0 (c_s_l13Add n.S r k1 k2 hn.2 hr) ?_
  cases g2:(n.S.add r).2
  ·try simp -implicitDefEqProofs (maxSteps:=1000000) only [go_sem,g2,e1,NodeV.changed,NodeV.added,NodeV.enc,take_all,take_marks]
   repeat refine ⟨sc,?_⟩
   try exact sf
   try rfl
  ·try simp -implicitDefEqProofs (maxSteps:=1000000) only [go_sem,g2,e1,NodeV.changed,NodeV.added,NodeV.enc,take_all,take_marks]
   repeat refine ⟨sc,?_⟩
   try exact sf
   try rfl
 ·have e1:=told_who g
  have ec:r.told.Code=r.Code:=by rw [e1]; rfl
  refine G1 g ?_
  refine C0 (c_s_l13Add n.S (recWho r.Who r.Seq r.Code) k1 k2 hn.2 (recWho_in _ _ _ _)) ?_
  cases g2:(n.S.add (recWho r.Who r.Seq r.Code)).2
  ·try simp -implicitDefEqProofs (maxSteps:=1000000) only [go_sem,g2,e1,NodeV.changed,NodeV.added,NodeV.enc,take_all,take_marks]
   repeat refine ⟨sc,?_⟩
   try exact sf
   try rfl
  ·try simp -implicitDefEqProofs (maxSteps:=1000000) only [go_sem,g2,e1,NodeV.changed,NodeV.added,NodeV.enc,take_all,take_marks]
   repeat refine ⟨sc,?_⟩
   try exact sf
   try rfl
def x_s_l3Any:FnX:=⟨6,[.tmp 2],
  .q [.i 2 0]
 (.q [.m 3 0,.op 4 (.bslice 1 [(.i 0),(.i 1),(.i 2),(.i 3),(.i 4),(.i 5),(.i 6),(.i (-1))]),.op 5 (.call 70 [5,1] [(.t 3),(.t 4)]),.m 2 5]
 .ret)⟩
theorem r_s_l3Any {Te:TE} (c_s_l1Int:C_s_l1Int Te):∀ (c:CurV) (hc:c.ok),∃ r0,(∃ (r:Int) (d:CurV),(d.ok)∧r0=(⟨[.one (iT r)],[d.enc]⟩:Res))∧RunFn Te x_s_l3Any [.ptr c.enc] r0:=by
 intro c hc
 refine some_of (Nat.le_of_ble_eq_true rfl) (by rfl) ?_
 simp -implicitDefEqProofs (maxSteps:=1000000) only [x_s_l3Any,go_sem]
 repeat refine ⟨sc,?_⟩
 try exact sf
 obtain ⟨r,d,⟨hr,hd⟩,ht⟩:=c_s_l1Int c [0,1,2,3,4,5,6,-1] hc (by decide)
 refine C0 (ht) ?_
 exact ⟨r,d,hd,rfl⟩
def x_s_l2Bent:FnX:=⟨23,[.tmp 2],
  .q [.op 2 (.mv (.k (.one (.pv (.string ⟨#[]⟩)))))]
 (.q [.m 4 0,.op 5 (.call 199 [5,0] [(.t 4),(.i 6)]),.m 3 5]
 (.seq (.q [.m 6 0,.op 7 (.call 96 [5,0] [(.t 6),(.i 5)])]
 (.block 0 (.q [.B 9 .eql 7 0,.m 8 9]
 (.cond 8 (.q [.m 10 3,.m 11 0,.op 12 (.bslice 1 [(.k (.one (.pv (.string ⟨#[255]⟩)))),(.k (.one (.pv (.string ⟨#[192,128]⟩)))),(.k (.one (.pv (.string ⟨#[224,128,128]⟩)))),(.k (.one (.pv (.string ⟨#[237,160,128]⟩)))),(.k (.one (.pv (.string ⟨#[244,144,128,128]⟩)))),(.k (.one (.pv (.string ⟨#[194]⟩)))),(.k (.one (.pv (.string ⟨#[226,130]⟩)))),(.k (.one (.pv (.string ⟨#[128]⟩))))]),.op 13 (.call 114 [5,1] [(.t 11),(.t 12)]),.b 14 .add 10 13,.m 2 14]
 .ret) (.q [.B 16 .eql 7 1,.m 15 16]
 (.c 15 (.q [.m 17 0,.m 18 3,.op 19 (.conv .s2b (.t 18)),.op 20 (.call 183 [5,1] [(.t 17),(.t 19)]),.op 21 (.conv .b2s (.t 20)),.m 2 21]
 .ret)))))))
 (.q [.m 22 3,.m 2 22]
 .ret)))⟩
theorem r_s_l2Bent {Te:TE} (c_s_l2Text:C_s_l2Text Te) (c_s_l1Below:C_s_l1Below Te) (c_s_l1Str:C_s_l1Str Te) (c_s_l1Bend:C_s_l1Bend Te):∀ (c:CurV) (hc:c.ok),∃ r0,(∃ (r:ByteArray) (d:CurV),(r.size≤60∧d.ok)∧r0=(⟨[.one (sT r)],[d.enc]⟩:Res))∧RunFn Te x_s_l2Bent [.ptr c.enc] r0:=by
 intro c hc
 refine some_of (Nat.le_of_ble_eq_true rfl) (by rfl) ?_
 simp -implicitDefEqProofs (maxSteps:=1000000) only [x_s_l2Bent,go_sem]
 repeat refine ⟨sc,?_⟩
 try exact sf
 obtain ⟨s,d,⟨hs,hd⟩,ht⟩:=c_s_l2Text c 6 hc (by decide)
 replace hs:s.size≤24:=hs
 refine C0 (ht) ?_
 obtain ⟨k,d,⟨_,hd⟩,ht⟩:=c_s_l1Below d 5 hd
 by_cases q0:k=0
 ·subst q0
  obtain ⟨r,d,⟨hr,hd⟩,ht1⟩:=c_s_l1Str d [⟨#[255]⟩,⟨#[192,128]⟩,⟨#[224,128,128]⟩,⟨#[237,160,128]⟩,⟨#[244,144,128,128]⟩,⟨#[194]⟩,⟨#[226,130]⟩,⟨#[128]⟩] hd (by decide)
  have h4:=str_small 4 hr (by decide)
  have hz:decide (s.size + r.size≤4294967296)=true:=decide_eq_true (by omega)
  refine C0 (ht) ?_
  refine C1 (ht1) hz ?_
  exact ⟨s++r,d,⟨by rw [ByteArray.size_append]; omega,hd⟩,rfl⟩
 by_cases q1:k=1
 ·subst q1
  obtain ⟨r,d,⟨hr,hd⟩,ht1⟩:=c_s_l1Bend d s.data.toList hd (by rw [Array.length_toList]; show s.size≤_; omega)
  replace hr:r.length≤s.size:=by rw [Array.length_toList] at hr; exact hr
  refine C0 (ht) ?_
  refine C0 (ht1) ?_
  refine ⟨areBytes_uL r,⟨(bytesOf (r.map uR)).toArray⟩,d,⟨?_,hd⟩,rfl⟩
  show (bytesOf (r.map uR)).length≤_
  rw [bytesOf_uL]
  omega
 have e:∀ j:Int,k≠j→(k==j)=false:=fun j h=>by simpa using h
 refine .of (ht) ?_
 try simp -implicitDefEqProofs (maxSteps:=1000000) only [go_sem,e 0 q0,e 1 q1]
 repeat refine ⟨sc,?_⟩
 try exact sf
 exact ⟨s,d,⟨by omega,hd⟩,rfl⟩
def x_s_l8Draw:FnX:=⟨17,[.cell 2 (some 2)],
  .q [.op 2 (.alloc [.i 0,.nils 1])]
 (.q [.m 6 0,.op 7 (.call 96 [5,0] [(.t 6),(.i 6)]),.m 3 7]
 (.q [.m 9 3,.m 10 0,.m 11 3,.op 12 (.call 106 [5,0,0] [(.t 10),(.t 11),(.i 6)]),.c 13 200 [9,12],.m 8 13,.e 14 8 0,.e 15 8 1,.op 4 (.alloc [.i 0,.nils 1]),.s 100001 2 4 14,.m 5 15]
 (.q [.L 16 2 4,.s 100002 2 2 16]
 .ret)))⟩
theorem r_s_l8Draw {Te:TE} (c_s_l1Below:C_s_l1Below Te) (c_s_l5Text:C_s_l5Text Te) (c_s_CellOf:C_s_CellOf Te):∀ (c:CurV) (hc:c.ok),∃ r0,(∃ (x:CellV) (d:CurV),(x.In (2 ^ 20)∧d.ok)∧r0=(⟨[.agg (x.enc true)],[d.enc]⟩:Res))∧RunFn Te x_s_l8Draw [.ptr c.enc] r0:=by
 intro c hc
 refine some_of (Nat.le_of_ble_eq_true rfl) (by rfl) ?_
 simp -implicitDefEqProofs (maxSteps:=1000000) only [x_s_l8Draw,go_sem]
 repeat refine ⟨sc,?_⟩
 try exact sf
 obtain ⟨k,d,⟨_,hd⟩,ht⟩:=c_s_l1Below c 6 hc
 obtain ⟨s,d,⟨hs,hd⟩,ht1⟩:=c_s_l5Text d k 6 hd (by decide)
 replace hs:s.size≤24:=hs
 refine C0 (ht) ?_
 refine C0 (ht1) ?_
 refine C0 (c_s_CellOf k s (by omega)) ?_
 exact ⟨(cellOf k s).1,d,⟨Nat.le_trans (cellOf_in k s) (by decide),hd⟩,rfl⟩
def x_s_l8Any:FnX:=⟨28,[.cell 2 (some 2)],
  .q [.op 2 (.alloc [.i 0,.nils 1])]
 (.q [.m 4 0,.op 5 (.call 372 [5] [(.t 4)]),.op 3 (.alloc [.i 0,.nils 1]),.s 100001 2 3 5]
 (.seq (.q [.m 6 0,.op 7 (.call 96 [5,0] [(.t 6),(.i 6)])]
 (.block 0 (.q [.B 9 .eql 7 0,.m 8 9]
 (.cond 8 (.reg [.m 10 0,.op 11 (.call 118 [5] [(.t 10)]),.f 12 3 0,.s 100002 1 12 11]) (.q [.B 14 .eql 7 1,.m 13 14]
 (.cond 13 (.reg [.m 15 0,.f 16 3 0,.l 17 16,.op 18 (.call 97 [5,0] [(.t 15),(.t 17)]),.f 19 3 1,.s 100003 1 19 18]) (.q [.B 21 .eql 7 2,.m 20 21]
 (.c 20 (.reg [.m 22 0,.op 23 (.call 96 [5,0] [(.t 22),(.i 3)]),.op 24 (.bin .add (.i 19) (.t 23)),.op 25 (.mks 1 1 [.pv (.int .u8 0)] (.t 24)),.f 26 3 1,.s 100004 1 26 25])))))))))
 (.q [.L 27 2 3,.s 100005 2 2 27]
 .ret)))⟩
theorem r_s_l8Any {Te:TE} (c_s_l8Draw:C_s_l8Draw Te) (c_s_l1Below:C_s_l1Below Te) (c_s_l3Any:C_s_l3Any Te) (c_s_l5Bytes:C_s_l5Bytes Te):∀ (c:CurV) (hc:c.ok),∃ r0,(∃ (x:CellV) (d:CurV),(x.In (2 ^ 20)∧d.ok)∧r0=(⟨[.agg (x.enc true)],[d.enc]⟩:Res))∧RunFn Te x_s_l8Any [.ptr c.enc] r0:=by
 intro c hc
 refine some_of (Nat.le_of_ble_eq_true rfl) (by rfl) ?_
 simp -implicitDefEqProofs (maxSteps:=1000000) only [x_s_l8Any,go_sem]
 repeat refine ⟨sc,?_⟩
 try exact sf
 obtain ⟨x,d,⟨hx,hd⟩,ht⟩:=c_s_l8Draw c hc
 refine C0 (ht) ?_
 obtain ⟨k,d,⟨⟨hk0,hk1,_⟩,hd⟩,ht⟩:=c_s_l1Below d 6 hd
 by_cases q0:k=0
 ·subst q0
  obtain ⟨r,d,hd,ht1⟩:=c_s_l3Any d hd
  refine C0 (ht) ?_
  refine C0 (ht1) ?_
  exact ⟨⟨r,x.B⟩,d,⟨hx,hd⟩,rfl⟩
 by_cases q1:k=1
 ·subst q1
  obtain ⟨b,d,⟨hb,hd⟩,ht1⟩:=c_s_l5Bytes d x.Tag hd
  refine C0 (ht) ?_
  refine C0 (ht1) ?_
  exact ⟨⟨x.Tag,b⟩,d,⟨Nat.le_trans hb (by decide),hd⟩,rfl⟩
 by_cases q2:k=2
 ·subst q2
  obtain ⟨u,d,⟨⟨hu0,hu1,_⟩,hd⟩,ht1⟩:=c_s_l1Below d 3 hd
  have hu3:=hu1 (by decide)
  have wu:IntKind.i64.wrap (19 + u)=19 + u:=IntWalk.i64_in _ (by omega)
  refine C0 (ht) ?_
  refine .of (ht1) ?_
  try simp -implicitDefEqProofs (maxSteps:=1000000) only [go_sem,wu,zero_rows,take_zeros]
  repeat refine ⟨sc,?_⟩
  try exact sf
  exact ⟨⟨x.Tag,List.replicate (19 + u).toNat 0⟩,d,⟨by show (List.replicate _ _).length≤_; rw [List.length_replicate]; omega,hd⟩,rfl⟩
 have e:∀ j:Int,k≠j→(k==j)=false:=fun j h=>by simpa using h
 refine .of (ht) ?_
 try simp -implicitDefEqProofs (maxSteps:=1000000) only [go_sem,e 0 q0,e 1 q1,e 2 q2]
 repeat refine ⟨sc,?_⟩
 try exact sf
 exact ⟨x,d,⟨hx,hd⟩,rfl⟩
def x_s_l10Copy:FnX:=⟨58,[.cell 2 (some 4)],
  .q [.v 1 0,.op 2 (.alloc [.nils 1,.nils 2,.i 0,.F])]
 (.q [.f 6 1 2,.l 7 6,.f 8 1 3,.l 9 8,.op 10 (.build [.nils 1,.nils 2,.i 0,.F] [(2,1,(.t 7)),(3,1,(.t 9))]),.op 3 (.alloc [.nils 1,.nils 2,.i 0,.F]),.s 100001 4 3 10]
 (.seq (.q [.i 4 0]
 (.up 3 1 300001 (.up 3 0 300000 (.block 0 (.loop [1,2,3,4] (.seq (.q [.m 11 4,.f 12 1 0,.l 13 12,.n 14 13,.b 15 .lss 11 14]
 (.cond 15 .skip (.exit 0)))
 (.seq (.block 1 (.draw [.f 18 3 0,.l 19 18,.op 20 (.bslice 1 []),.f 21 1 0,.l 22 21,.m 23 4,.x 24 1 22 23,.l 25 24,.op 26 (.app 1 1 (.t 20) (.t 25)),.op 27 (.bslice 1 [(.t 26)]),.op 28 (.app 1 24 (.t 19) (.t 27)),.f 29 3 0,.s 100002 1 29 28] [[],[0],[],[],[3],[],[4,5],[6],[2,7],[8],[1,9,8],[0,1,2,3,4,5,6,7,8,9,10],[11,10,10,0,1,2,3,4,5,6,7,8,9,10]]))
 (.reg [.m 16 4,.B 17 .add 16 1,.m 4 17]))))))))
 (.norm [1,2,3] (.seq (.q [.i 5 0]
 (.block 2 (.loop [1,2,3,5] (.seq (.q [.m 30 5,.f 31 1 1,.l 32 31,.n 33 32,.b 34 .lss 30 33]
 (.cond 34 .skip (.exit 2)))
 (.seq (.block 3 (.draw [.f 37 3 1,.l 38 37,.f 39 1 1,.l 40 39,.m 41 5,.x 42 2 40 41,.f 43 42 0,.l 44 43,.op 45 (.bslice 1 []),.f 46 1 1,.l 47 46,.m 48 5,.x 49 2 47 48,.f 50 49 1,.l 51 50,.op 52 (.app 1 1 (.t 45) (.t 51)),.op 53 (.build [.i 0,.nils 1] [(0,1,(.t 44)),(1,1,(.t 52))]),.op 54 (.bslice 2 [(.t 53)]),.op 55 (.app 2 32 (.t 38) (.t 54)),.f 56 3 1,.s 100003 1 56 55] [[],[0],[],[2],[],[3,4],[5],[6],[],[],[9],[],[10,11],[12],[13],[8,14],[7,15],[16],[1,17,15],[0,1,2,3,4,5,6,7,8,9,10,11,12,13,14,15,16,17,18],[19,18,18,0,1,2,3,4,5,6,7,8,9,10,11,12,13,14,15,16,17,18]]))
 (.reg [.m 35 5,.B 36 .add 35 1,.m 5 36]))))))
 (.norm [2,3] (.q [.L 57 4 3,.s 100004 4 2 57]
 .ret))))))⟩
theorem r_s_l10Copy {Te:TE}:C_s_l10Copy (RF Te x_s_l10Copy):=by
 intro d h
 obtain ⟨⟨hS,hSl⟩,hC,hCl⟩:=h
 refine X0 x_s_l10Copy.eq_1 ?_
 refine loop_of (σ:=Nat×List (List UInt8)) (fun x=>⟨[(1,.bp 1 0),(2,.bp 2 0),(3,.bp 3 0),(4,.one (.pv (.int .i64 x.1)))],[(1,[.ro 1 (d.Secs.map (secR false)),.ro 2 (d.Cache.map (WrV.enc false)),.pv (.int .i64 d.Fuse),.pv (.bool d.Down)]),(2,[.nils 1,.nils 2,.pv (.int .i64 0),.pv (.bool false)]),(3,[.rf 59 0 [] 1 0 x.2.length,.rf 60 0 [] 2 0 0,.pv (.int .i64 d.Fuse),.pv (.bool d.Down)])],[(0,d.enc false),(59,[slT true 1 (secR true) x.2]),(60,[slT true 2 (WrV.enc true) []])]⟩) (fun x=>x.1≤d.Secs.length∧x.2=d.Secs.take x.1) (fun x=>d.Secs.length - x.1) (0,[]) ?_ ⟨Nat.zero_le _,rfl⟩ ?_
 ·simp -implicitDefEqProofs (maxSteps:=1000000) only [go_sem]
  try rfl
 ·rintro ⟨i,l⟩ ⟨hi,he⟩
  simp only at hi he
  have hl:l.length=i:=by rw [he,List.length_take]; omega
  cases q:decide ((i:Int) < (d.Secs.length:Int))
  ·have k0:i=d.Secs.length:=by simp only [decide_eq_false_iff_not] at q; omega
   rw [k0,List.take_length] at he
   subst he
   refine G1 q ?_
   refine loop_of (σ:=Nat×List WrV) (fun x=>⟨[(1,.bp 1 0),(2,.bp 2 0),(3,.bp 3 0),(5,.one (.pv (.int .i64 x.1)))],[(1,[.ro 1 (d.Secs.map (secR false)),.ro 2 (d.Cache.map (WrV.enc false)),.pv (.int .i64 d.Fuse),.pv (.bool d.Down)]),(2,[.nils 1,.nils 2,.pv (.int .i64 0),.pv (.bool false)]),(3,[.rf 59 0 [] 1 0 d.Secs.length,.rf 60 0 [] 2 0 x.2.length,.pv (.int .i64 d.Fuse),.pv (.bool d.Down)])],[(0,d.enc false),(59,[slT true 1 (secR true) d.Secs]),(60,[slT true 2 (WrV.enc true) x.2])]⟩) (fun x=>x.1≤d.Cache.length∧x.2=d.Cache.take x.1) (fun x=>d.Cache.length - x.1) (0,[]) ?_ ⟨Nat.zero_le _,rfl⟩ ?_
   ·simp -implicitDefEqProofs (maxSteps:=1000000) only [go_sem]
    try rfl
   ·rintro ⟨j,m⟩ ⟨hj,hm⟩
    simp only at hj hm
    have hml:m.length=j:=by rw [hm,List.length_take]; omega
    cases q2:decide ((j:Int) < (d.Cache.length:Int))
    ·have k2:j=d.Cache.length:=by simp only [decide_eq_false_iff_not] at q2; omega
     rw [k2,List.take_length] at hm
     subst hm
     exact F1 q2
    ·have k2:j < d.Cache.length:=by simp only [decide_eq_true_eq] at q2; omega
     have hb:d.Cache[j].B.length≤2 ^ 21:=hCl _ (List.getElem_mem k2)
     have ea:=app1W m d.Cache[j]
     refine G3 q2 (List.getElem?_eq_getElem k2) ea ?_
     refine ⟨(j + 1,m++[d.Cache[j]]),?_,⟨k2,by rw [hm,List.take_succ_eq_append_getElem k2]⟩,by simp only; omega⟩
     rw [IntWalk.i64_in _ (by omega)]
     simp only [List.length_append]
     rfl
  ·have k1:i < d.Secs.length:=by simp only [decide_eq_true_eq] at q; omega
   have hb:d.Secs[i].length≤2 ^ 21:=hSl _ (List.getElem_mem k1)
   have ea:=app1S l d.Secs[i]
   refine G3 q (List.getElem?_eq_getElem k1) ea ?_
   refine ⟨(i + 1,l++[d.Secs[i]]),?_,⟨k1,by rw [he,List.take_succ_eq_append_getElem k1]⟩,by simp only; omega⟩
   rw [IntWalk.i64_in _ (by omega)]
   simp only [List.length_append]
   rfl
def x_i_copyTab:FnX:=⟨29,[.cell 2 (some 3)],
  .q [.v 1 0,.op 2 (.alloc [.nils 7,.i 0,.nils 3])]
 (.seq (.draw [.f 6 1 1,.l 7 6,.op 8 (.bslice 3 []),.f 9 1 2,.l 10 9,.op 11 (.app 3 24 (.t 8) (.t 10)),.op 12 (.build [.nils 7,.i 0,.nils 3] [(1,1,(.t 7)),(2,1,(.t 11))]),.op 3 (.alloc [.nils 7,.i 0,.nils 3]),.s 100001 3 3 12] [[],[0],[],[],[3],[2,4],[1,5],[],[7,6,5,0,1,2,3,4,5,6,7]])
 (.seq (.q [.f 13 1 0,.l 14 13,.n 15 14,.i 16 0]
 (.up 3 0 300000 (.block 0 (.loop [2,3,14,15,16] (.q [.b 17 .lss 16 15]
 (.seq (.cond 17 .skip (.exit 0))
 (.seq (.block 1 (.q [.x 18 7 14 16,.L 19 7 18,.op 5 (.alloc [.e,.i 0,.nils 1,.i 0,.nils 1,.i 0,.F]),.s 100002 7 5 19]
 (.draw [.f 20 3 0,.l 21 20,.L 22 7 5,.c 23 252 [22],.op 24 (.bslice 7 [(.t 23)]),.op 25 (.app 7 96 (.t 21) (.t 24)),.f 26 3 0,.s 100003 1 26 25] [[],[0],[],[2],[3],[1,4,3],[0,1,2,3,4,5],[6,5,5,0,1,2,3,4,5]])))
 (.reg [.B 27 .add 16 1,.m 16 27]))))))))
 (.norm [2,3] (.q [.L 28 3 3,.s 100004 3 2 28]
 .ret))))⟩
theorem r_i_copyTab {Te:TE} (c_i_copyRow:C_i_copyRow Te):C_i_copyTab (RF Te x_i_copyTab):=by
 intro t h
 obtain ⟨⟨hR,hRl⟩,hM⟩:=h
 refine X0 x_i_copyTab.eq_1 ?_
 refine loop_of (σ:=Nat×List RowV) (fun x=>⟨[(2,.bp 2 0),(3,.bp 3 0),(14,.one (.ro 7 (t.Rows.map (RowV.enc false)))),(15,.one (.pv (.int .i64 t.Rows.length))),(16,.one (.pv (.int .i64 x.1)))],[(2,[.nils 7,.pv (.int .i64 0),.nils 3]),(3,[.rf 30 0 [] 7 0 x.2.length,.pv (.int .i64 t.Phase),.rf 31 0 [] 3 0 t.Marks.length])],[(0,t.enc false),(30,[slT true 7 (RowV.enc true) x.2]),(31,[slT true 3 MarkV.row t.Marks])]⟩) (fun x=>x.1≤t.Rows.length∧x.2=t.Rows.take x.1) (fun x=>t.Rows.length - x.1) (0,[]) ?_ ⟨Nat.zero_le _,rfl⟩ ?_
 ·simp -implicitDefEqProofs (maxSteps:=1000000) only [go_sem]
  try rfl
 ·rintro ⟨i,l⟩ ⟨hi,he⟩
  simp only at hi he
  have hl:l.length=i:=by rw [he,List.length_take]; omega
  cases q:decide ((i:Int) < (t.Rows.length:Int))
  ·have k0:i=t.Rows.length:=by simp only [decide_eq_false_iff_not] at q; omega
   rw [k0,List.take_length] at he
   subst he
   exact F1 q
  ·have k1:i < t.Rows.length:=by simp only [decide_eq_true_eq] at q; omega
   have ea:=app1Rw l t.Rows[i]
   refine G2 q (List.getElem?_eq_getElem k1) ?_
   refine C1 (c_i_copyRow t.Rows[i] (hRl _ (List.getElem_mem k1))) ea ?_
   refine ⟨(i + 1,l++[t.Rows[i]]),?_,⟨k1,by rw [he,List.take_succ_eq_append_getElem k1]⟩,by simp only; omega⟩
   rw [IntWalk.i64_in _ (by omega)]
   simp only [List.length_append]
   rfl
def x_s_DrawNodeLoad:FnX:=⟨32,[.cell 2 (some 10),.tmp 3,.tmp 4],
  .q [.op 2 (.alloc [.nils 1,.nils 2,.i 0,.F,.nils 7,.i 0,.nils 3,.i 0,.i 0,.i 0]),.op 3 (.mv (.k (.one (.pv (.string ⟨#[]⟩))))),.op 4 (.mv (.k (.one (.nils 1))))]
 (.q [.m 8 0,.c 9 58 [8],.m 5 9]
 (.q [.m 10 5,.op 11 (.call 92 [5,0] [(.t 10),(.i 3)]),.op 6 (.alloc [.nils 1,.nils 2,.i 0,.F,.nils 7,.i 0,.nils 3,.i 0,.i 0,.i 0]),.s 100001 10 6 11]
 (.q [.m 12 5,.op 13 (.call 93 [5] [(.t 12)]),.m 7 13]
 (.seq (.q [.m 14 5,.op 15 (.call 94 [5,0] [(.t 14),(.i 8)])]
 (.c 15 (.reg [.m 16 5,.op 17 (.call 95 [5] [(.t 16)]),.m 7 17])))
 (.seq (.q [.m 18 5,.op 19 (.call 94 [5,0] [(.t 18),(.i 10)])]
 (.c 19 (.seq (.draw [.L 20 10 6,.m 21 7,.m 22 5,.op 23 (.call 96 [5,0] [(.t 22),(.i 2)]),.op 24 (.bin .add (.i 20) (.t 23)),.op 25 (.mks 1 1 [.pv (.int .u8 0)] (.t 24)),.s 100002 10 2 20,.m 3 21,.m 4 25] [[],[],[],[2],[3],[4,4],[0,3,0],[1,6,0,1,6],[5,7,0,1,2,3,4,5,6,7]])
 .ret)))
 (.seq (.draw [.L 26 10 6,.m 27 7,.m 28 5,.f 29 6 9,.l 30 29,.op 31 (.call 97 [5,0] [(.t 28),(.t 30)]),.s 100003 10 2 26,.m 3 27,.m 4 31] [[],[],[],[],[3],[2,4],[0,5,0],[1,6,0,1,6],[5,7,0,1,2,3,4,5,6,7]])
 .ret))))))⟩
theorem r_s_DrawNodeLoad {Te:TE} (c_s_l1New:C_s_l1New Te) (c_s_l15Any:C_s_l15Any Te) (c_s_l1Name:C_s_l1Name Te) (c_s_l1Once:C_s_l1Once Te) (c_s_l1Text:C_s_l1Text Te) (c_s_l1Below:C_s_l1Below Te) (c_s_l5Bytes:C_s_l5Bytes Te):∀ (l:List UInt8) (hl:l.length≤2 ^ 31),∃ r0,(∃ (n:NodeV) (key:ByteArray) (b:List UInt8),(n.In (2 ^ 20)∧key.size≤2 ^ 20∧b.length≤2 ^ 20)∧r0=(⟨[.agg (n.enc true),.one (sT key),.one (slT true 1 uR b)],[[slT false 1 uR l]]⟩:Res))∧RunFn Te x_s_DrawNodeLoad [.one (slT false 1 uR l)] r0:=by
 intro l hl
 refine some_of (Nat.le_of_ble_eq_true rfl) (by rfl) ?_
 simp -implicitDefEqProofs (maxSteps:=1000000) only [x_s_DrawNodeLoad,go_sem]
 repeat refine ⟨sc,?_⟩
 try exact sf
 obtain ⟨c,hc,ht⟩:=c_s_l1New l hl
 refine C0 (ht) ?_
 obtain ⟨n,d,⟨⟨hn,_⟩,hd⟩,ht⟩:=c_s_l15Any c 3 hc (by decide)
 refine C0 (ht) ?_
 obtain ⟨key,d,⟨hk,hd⟩,ht⟩:=c_s_l1Name d hd
 refine C0 (ht) ?_
 obtain ⟨p,d,hd,ht⟩:=c_s_l1Once d 8 hd
 cases p
 ·obtain ⟨q,d,hd,ht1⟩:=c_s_l1Once d 10 hd
  cases q
  ·obtain ⟨b,d,⟨hb,hd⟩,ht2⟩:=c_s_l5Bytes d n.Cs hd
   refine C0 (ht) ?_
   refine C0 (ht1) ?_
   refine C0 (ht2) ?_
   exact ⟨n,key,b,⟨hn,by omega,by omega⟩,rfl⟩
  ·obtain ⟨u,d,⟨⟨hu0,hu1,_⟩,hd⟩,ht2⟩:=c_s_l1Below d 2 hd
   have hu2:=hu1 (by decide)
   have wu:IntKind.i64.wrap (20 + u)=20 + u:=IntWalk.i64_in _ (by omega)
   refine C0 (ht) ?_
   refine C0 (ht1) ?_
   refine .of (ht2) ?_
   try simp -implicitDefEqProofs (maxSteps:=1000000) only [go_sem,wu,zero_rows,take_zeros]
   repeat refine ⟨sc,?_⟩
   try exact sf
   exact ⟨n,key,List.replicate (20 + u).toNat 0,⟨hn,by omega,by rw [List.length_replicate]; omega⟩,rfl⟩
 ·obtain ⟨key2,d,⟨hk2,hd⟩,ht0⟩:=c_s_l1Text d hd
  obtain ⟨q,d,hd,ht1⟩:=c_s_l1Once d 10 hd
  cases q
  ·obtain ⟨b,d,⟨hb,hd⟩,ht2⟩:=c_s_l5Bytes d n.Cs hd
   refine C0 (ht) ?_
   refine C0 (ht0) ?_
   refine C0 (ht1) ?_
   refine C0 (ht2) ?_
   exact ⟨n,key2,b,⟨hn,by omega,by omega⟩,rfl⟩
  ·obtain ⟨u,d,⟨⟨hu0,hu1,_⟩,hd⟩,ht2⟩:=c_s_l1Below d 2 hd
   have hu2:=hu1 (by decide)
   have wu:IntKind.i64.wrap (20 + u)=20 + u:=IntWalk.i64_in _ (by omega)
   refine C0 (ht) ?_
   refine C0 (ht0) ?_
   refine C0 (ht1) ?_
   refine .of (ht2) ?_
   try simp -implicitDefEqProofs (maxSteps:=1000000) only [go_sem,wu,zero_rows,take_zeros]
   repeat refine ⟨sc,?_⟩
   try exact sf
   exact ⟨n,key2,List.replicate (20 + u).toNat 0,⟨hn,by omega,by rw [List.length_replicate]; omega⟩,rfl⟩
def x_s_DrawNodeGet:FnX:=⟨11,[.cell 2 (some 10),.tmp 3],
  .q [.op 2 (.alloc [.nils 1,.nils 2,.i 0,.F,.nils 7,.i 0,.nils 3,.i 0,.i 0,.i 0]),.op 3 (.mv (.k (.one (.pv (.string ⟨#[]⟩)))))]
 (.q [.m 5 0,.c 6 58 [5],.m 4 6]
 (.q [.m 7 4,.op 8 (.call 92 [5,0] [(.t 7),(.i 10)]),.m 9 4,.op 10 (.call 93 [5] [(.t 9)]),.s 100001 10 2 8,.m 3 10]
 .ret))⟩
theorem r_s_DrawNodeGet {Te:TE} (c_s_l1New:C_s_l1New Te) (c_s_l15Any:C_s_l15Any Te) (c_s_l1Name:C_s_l1Name Te):∀ (l:List UInt8) (hl:l.length≤2 ^ 31),∃ r0,(∃ (n:NodeV) (key:ByteArray),(n.In (2 ^ 20))∧r0=(⟨[.agg (n.enc true),.one (sT key)],[[slT false 1 uR l]]⟩:Res))∧RunFn Te x_s_DrawNodeGet [.one (slT false 1 uR l)] r0:=by
 intro l hl
 refine some_of (Nat.le_of_ble_eq_true rfl) (by rfl) ?_
 simp -implicitDefEqProofs (maxSteps:=1000000) only [x_s_DrawNodeGet,go_sem]
 repeat refine ⟨sc,?_⟩
 try exact sf
 obtain ⟨c,hc,ht⟩:=c_s_l1New l hl
 refine C0 (ht) ?_
 obtain ⟨n,d,⟨⟨hn,_⟩,hd⟩,ht⟩:=c_s_l15Any c 10 hc (by decide)
 refine C0 (ht) ?_
 obtain ⟨key,d,⟨hk,hd⟩,ht⟩:=c_s_l1Name d hd
 refine C0 (ht) ?_
 exact ⟨n,key,hn,rfl⟩
def x_i_EucSign:FnX:=⟨54,[.tmp 4,.tmp 5,.tmp 6],
  .q [.i 4 0,.i 5 0,.F 6]
 (.seq (.q [.m 9 1,.B 10 .lss 9 0,.m 11 10,.z 11 (.m 12 1),.z 11 (.m 13 0),.z 11 (.n 14 13),.z 11 (.b 15 .geq 12 14),.r 16 11 15]
 (.c 16 (.q [.i 4 0,.i 5 0,.F 6]
 .ret)))
 (.seq (.q [.m 17 0,.m 18 1,.x 19 1 17 18,.l 20 19,.op 21 (.bin .leq (.t 20) (.k (.one (.pv (.int .u8 127)))))]
 (.c 21 (.q [.m 22 0,.m 23 1,.x 24 1 22 23,.l 25 24,.op 26 (.conv (.int .i64) (.t 25)),.m 27 1,.B 28 .add 27 1,.m 4 26,.m 5 28,.T 6]
 .ret)))
 (.seq (.q [.m 29 1,.B 30 .add 29 1,.m 31 0,.n 32 31,.b 33 .eql 30 32]
 (.c 33 (.q [.i 4 0,.i 5 0,.F 6]
 .ret)))
 (.seq (.draw [.m 35 0,.m 36 1,.x 37 1 35 36,.l 38 37,.op 39 (.conv (.int .i64) (.t 38)),.m 40 0,.m 41 1,.B 42 .add 41 1,.x 43 1 40 42,.l 44 43,.op 45 (.conv (.int .i64) (.t 44)),.c 46 324 [39,45],.m 34 46,.e 47 34 0,.e 48 34 1,.m 7 47,.m 8 48] [[],[],[0,1],[2],[3],[],[],[6],[5,7],[8],[9],[4,10],[11],[12],[12],[13,11,0,1,2,3,4,5,6,7,8,9,10,11,12,13],[14,15,0,1,2,3,4,5,6,7,8,9,10,11,12,13,14,15]])
 (.seq (.q [.m 49 8,.N 50 49]
 (.c 50 (.q [.i 4 0,.i 5 0,.F 6]
 .ret)))
 (.q [.m 51 7,.m 52 1,.B 53 .add 52 2,.m 4 51,.m 5 53,.T 6]
 .ret))))))⟩
theorem r_i_EucSign {Te:TE} (c_i_PairSign:C_i_PairSign Te):C_i_EucSign (RF Te x_i_EucSign):=by
 intro b i hb
 refine run0 ?_
 by_cases hi:0≤i∧i < b.length
 ·obtain ⟨k,rfl⟩:∃ k:Nat,i=k:=⟨i.toNat,by omega⟩
  have hk:k < b.length:=by omega
  have eb:b[k].toNat=byteN (b.drop k) 0:=byteN_drop (j:=0) hk
  have hlt:=byteN_lt (b.drop k) 0
  have hlt1:=byteN_lt (b.drop k) 1
  have w3:IntKind.i64.wrap ((byteN (b.drop k) 0:Nat):Int)=(byteN (b.drop k) 0:Nat):=IntWalk.i64_in _ (by omega)
  have w4:IntKind.i64.wrap ((byteN (b.drop k) 1:Nat):Int)=(byteN (b.drop k) 1:Nat):=IntWalk.i64_in _ (by omega)
  have w5:IntKind.i64.wrap ((k:Int) + 1)=(k:Int) + 1:=IntWalk.i64_in _ (by omega)
  have w6:IntKind.i64.wrap ((k:Int) + 2)=(k:Int) + 2:=IntWalk.i64_in _ (by omega)
  have w7:((k:Int) + 1).toNat=k + 1:=by omega
  have q8:decide ((k:Int) < 0)=false:=decide_eq_false (by omega)
  have q9:decide ((k:Int)≥(b.length:Int))=false:=decide_eq_false (by omega)
  cases q:decide (((byteN (b.drop k) 0:Nat):Int)≤127)
  ·have h1:¬ byteN (b.drop ((k:Nat):Int).toNat) 0 < 128:=by rw [Int.toNat_natCast]; simp only [decide_eq_false_iff_not] at q; omega
   cases q2:((k:Int) + 1==(b.length:Int))
   ·have h3:(k:Int) + 1 < b.length:=by
     have:(k:Int) + 1≠(b.length:Int):=by simpa using q2
     omega
    have hk1:k + 1 < b.length:=by omega
    have eb1:b[k + 1].toNat=byteN (b.drop k) 1:=byteN_drop (j:=1) hk1
    simp -implicitDefEqProofs (maxSteps:=1000000) only [x_i_EucSign,go_sem,q,q2,q8,q9,List.getElem?_eq_getElem hk,eb,w3,w5,w7,List.getElem?_eq_getElem hk1,eb1,w4]
    repeat refine ⟨sc,?_⟩
    try exact sf
    refine .of (c_i_PairSign _ _ (by omega)) ?_
    try simp -implicitDefEqProofs (maxSteps:=1000000) only [go_sem]
    repeat refine ⟨sc,?_⟩
    try exact sf
    cases q3:(pairSign ((byteN (b.drop k) 0:Nat):Int) ((byteN (b.drop k) 1:Nat):Int)).2
    ·have e:=euc_bad hi h1 q3
     exact F2 q3 e
    ·have e:=euc_two hi h1 h3 q3
     exact F3 q3 e w6
   ·have e:=euc_end hi h1 (by have:=eq_of_beq q2; omega)
    simp -implicitDefEqProofs (maxSteps:=1000000) only [x_i_EucSign,go_sem,q,q2,q8,q9,List.getElem?_eq_getElem hk,eb,w3,w5,e]
    repeat refine ⟨sc,?_⟩
    try exact sf
  ·have e:=euc_one hi (by rw [Int.toNat_natCast]; simp only [decide_eq_true_eq] at q; omega)
   simp -implicitDefEqProofs (maxSteps:=1000000) only [x_i_EucSign,go_sem,q,q8,q9,List.getElem?_eq_getElem hk,eb,w3,w5,e]
   repeat refine ⟨sc,?_⟩
   try exact sf
 ·have e:=euc_no hi
  cases q8:decide (i < 0)
  ·have q9:decide (i≥(b.length:Int))=true:=by simp only [decide_eq_false_iff_not] at q8; exact decide_eq_true (by omega)
   simp -implicitDefEqProofs (maxSteps:=1000000) only [x_i_EucSign,go_sem,q8,q9,e]
   repeat refine ⟨sc,?_⟩
   try exact sf
  ·simp -implicitDefEqProofs (maxSteps:=1000000) only [x_i_EucSign,go_sem,q8,e]
   repeat refine ⟨sc,?_⟩
   try exact sf
def x_s_EucSign:FnX:=⟨52,[.tmp 4,.tmp 5,.tmp 6],
  .q [.i 4 0,.i 5 0,.F 6]
 (.seq (.q [.m 9 1,.m 10 0,.n 11 10,.B 12 .sub 11 1,.op 13 (.call 120 [0,0,0] [(.t 9),(.i 0),(.t 12)]),.N 14 13]
 (.c 14 (.q [.i 4 0,.i 5 0,.F 6]
 .ret)))
 (.seq (.q [.m 15 0,.m 16 1,.x 17 1 15 16,.l 18 17,.op 19 (.bin .lss (.t 18) (.k (.one (.pv (.int .u8 128)))))]
 (.c 19 (.q [.m 20 0,.m 21 1,.x 22 1 20 21,.l 23 22,.op 24 (.conv (.int .i64) (.t 23)),.m 25 1,.B 26 .add 25 1,.m 4 24,.m 5 26,.T 6]
 .ret)))
 (.seq (.q [.m 27 1,.B 28 .add 27 1,.m 29 0,.n 30 29,.b 31 .geq 28 30]
 (.c 31 (.q [.i 4 0,.i 5 0,.F 6]
 .ret)))
 (.seq (.draw [.m 33 0,.m 34 1,.x 35 1 33 34,.l 36 35,.op 37 (.conv (.int .i64) (.t 36)),.m 38 0,.m 39 1,.B 40 .add 39 1,.x 41 1 38 40,.l 42 41,.op 43 (.conv (.int .i64) (.t 42)),.c 44 330 [37,43],.m 32 44,.e 45 32 0,.e 46 32 1,.m 7 45,.m 8 46] [[],[],[0,1],[2],[3],[],[],[6],[5,7],[8],[9],[4,10],[11],[12],[12],[13,11,0,1,2,3,4,5,6,7,8,9,10,11,12,13],[14,15,0,1,2,3,4,5,6,7,8,9,10,11,12,13,14,15]])
 (.seq (.q [.m 47 8,.N 48 47]
 (.c 48 (.q [.i 4 0,.i 5 0,.F 6]
 .ret)))
 (.q [.m 49 7,.m 50 1,.B 51 .add 50 2,.m 4 49,.m 5 51,.T 6]
 .ret))))))⟩
theorem r_s_EucSign {Te:TE} (c_s_l1In:C_s_l1In Te) (c_s_PairSign:C_s_PairSign Te):C_s_EucSign (RF Te x_s_EucSign):=by
 intro b i hb
 have w1:IntKind.i64.wrap ((b.length:Int) - 1)=(b.length:Int) - 1:=IntWalk.i64_in _ (by omega)
 by_cases hi:0≤i∧i < b.length
 ·obtain ⟨k,rfl⟩:∃ k:Nat,i=k:=⟨i.toNat,by omega⟩
  have hk:k < b.length:=by omega
  have eb:b[k].toNat=byteN (b.drop k) 0:=byteN_drop (j:=0) hk
  have hlt:=byteN_lt (b.drop k) 0
  have hlt1:=byteN_lt (b.drop k) 1
  have w3:IntKind.i64.wrap ((byteN (b.drop k) 0:Nat):Int)=(byteN (b.drop k) 0:Nat):=IntWalk.i64_in _ (by omega)
  have w4:IntKind.i64.wrap ((byteN (b.drop k) 1:Nat):Int)=(byteN (b.drop k) 1:Nat):=IntWalk.i64_in _ (by omega)
  have w5:IntKind.i64.wrap ((k:Int) + 1)=(k:Int) + 1:=IntWalk.i64_in _ (by omega)
  have w6:IntKind.i64.wrap ((k:Int) + 2)=(k:Int) + 2:=IntWalk.i64_in _ (by omega)
  have w7:((k:Int) + 1).toNat=k + 1:=by omega
  have g:win (k:Int) 0 ((b.length:Int) - 1)=true:=by simp only [win,Bool.and_eq_true,decide_eq_true_eq]; omega
  refine X1 x_s_EucSign.eq_1 w1 ?_
  refine C4 (c_s_l1In _ _ _) g (List.getElem?_eq_getElem hk) eb w3 ?_
  cases q:decide (((byteN (b.drop k) 0:Nat):Int) < 128)
  ·have h1:¬ byteN (b.drop ((k:Nat):Int).toNat) 0 < 128:=by rw [Int.toNat_natCast]; simp only [decide_eq_false_iff_not] at q; omega
   cases q2:decide ((k:Int) + 1≥(b.length:Int))
   ·have h3:(k:Int) + 1 < b.length:=by simp only [decide_eq_false_iff_not] at q2; omega
    have hk1:k + 1 < b.length:=by omega
    have eb1:b[k + 1].toNat=byteN (b.drop k) 1:=byteN_drop (j:=1) hk1
    try simp -implicitDefEqProofs (maxSteps:=1000000) only [go_sem,q,q2,List.getElem?_eq_getElem hk,eb,w3,w5,w7,List.getElem?_eq_getElem hk1,eb1,w4]
    repeat refine ⟨sc,?_⟩
    try exact sf
    refine .of (c_s_PairSign _ _ (by omega)) ?_
    try simp -implicitDefEqProofs (maxSteps:=1000000) only [go_sem]
    repeat refine ⟨sc,?_⟩
    try exact sf
    cases q3:(pairSign ((byteN (b.drop k) 0:Nat):Int) ((byteN (b.drop k) 1:Nat):Int)).2
    ·have e:=euc_bad hi h1 q3
     exact F2 q3 e
    ·have e:=euc_two hi h1 h3 q3
     exact F3 q3 e w6
   ·have e:=euc_end hi h1 (by simp only [decide_eq_true_eq] at q2; omega)
    try simp -implicitDefEqProofs (maxSteps:=1000000) only [go_sem,q,q2,List.getElem?_eq_getElem hk,eb,w3,w5,e]
    repeat refine ⟨sc,?_⟩
    try exact sf
  ·have e:=euc_one hi (by rw [Int.toNat_natCast]; simp only [decide_eq_true_eq] at q; omega)
   try simp -implicitDefEqProofs (maxSteps:=1000000) only [go_sem,q,List.getElem?_eq_getElem hk,eb,w3,w5,e]
   repeat refine ⟨sc,?_⟩
   try exact sf
 ·have e:=euc_no hi
  have g:win i 0 ((b.length:Int) - 1)=false:=by
   simp only [win,Bool.and_eq_false_imp,decide_eq_true_eq,decide_eq_false_iff_not]
   omega
  refine X1 x_s_EucSign.eq_1 w1 ?_
  exact D2 (c_s_l1In _ _ _) g e
def x_i_FlushDev:FnX:=⟨44,[.cell 2 (some 4)],
  .q [.v 1 0,.op 2 (.alloc [.nils 1,.nils 2,.i 0,.F])]
 (.q [.L 7 4 1,.c 8 245 [7],.op 3 (.alloc [.nils 1,.nils 2,.i 0,.F]),.s 100001 4 3 8]
 (.seq (.q [.L 9 4 1,.c 10 178 [9],.N 11 10,.m 12 11,.z 12 (.f 13 1 3),.z 12 (.l 14 13),.r 15 12 14]
 (.c 15 (.q [.L 16 4 3,.s 100002 4 2 16]
 .ret)))
 (.q [.L 18 4 3,.op 19 (.call 311 [1] [(.t 18)]),.m 17 19,.e 20 17 0,.e 21 17 1,.s 100003 4 3 20,.m 4 21]
 (.seq (.q [.m 22 4,.N 23 22]
 (.c 23 (.q [.L 24 4 3,.s 100004 4 2 24]
 .ret)))
 (.seq (.q [.f 25 3 1,.l 26 25,.n 27 26,.i 28 0]
 (.block 0 (.loop [2,3,26,27,28] (.q [.b 29 .lss 28 27]
 (.seq (.cond 29 .skip (.exit 0))
 (.seq (.block 1 (.q [.x 30 2 26 28,.L 31 2 30,.op 6 (.alloc [.i 0,.nils 1]),.s 100005 2 6 31]
 (.draw [.f 32 3 0,.l 33 32,.f 34 6 0,.l 35 34,.f 36 6 1,.l 37 36,.op 38 (.bslice 1 [(.t 37)]),.c 39 100 [38],.x 40 1 33 35,.s 100006 1 40 39] [[],[0],[],[2],[],[4],[5],[6],[1,3,0,1,2,3,4,5,6,7],[8,7,7,0,1,2,3,4,5,6,7]])))
 (.reg [.B 41 .add 28 1,.m 28 41])))))))
 (.norm [2,3] (.q [.f 42 3 1,⟨none,none,100007,.store 1 (.t 42) (.k (.one (.nils 2)))⟩]
 (.q [.L 43 4 3,.s 100008 4 2 43]
 .ret))))))))⟩
theorem r_i_FlushDev {Te:TE} (c_i_copyDev:C_i_copyDev Te) (c_i_DevOk:C_i_DevOk Te) (c_i_burn:C_i_burn Te) (c_i_joined:C_i_joined Te):C_i_FlushDev (RF Te x_i_FlushDev):=by
 intro d hk
 have hin:=DevV.ok_in hk
 have h40:=DevV.ok_cache hk
 have hL:=hin.len (by decide)
 have hidx:=DevV.ok_idx hk
 refine X0 x_i_FlushDev.eq_1 ?_
 refine C0 (c_i_copyDev d hL) ?_
 refine C1 (c_i_DevOk d (hin.mono (by decide))) hk ?_
 cases g1:d.Down
 rotate_left
 ·have e:d.flush=d:=by rw [DevV.flush,if_pos g1]
  try simp -implicitDefEqProofs (maxSteps:=1000000) only [go_sem,g1,e,take_all,DevV.enc]
  repeat refine ⟨sc,?_⟩
  try exact sf
  try rfl
 have e:=show d.flush=if d.Fuse=0 then d.burn else ⟨flushed d.Secs d.Cache,[],d.burn.Fuse,d.burn.Down⟩ from if_neg (by rw [g1]; decide)
 refine G1 g1 ?_
 have tb:=c_i_burn d
 simp only [DevV.enc,g1] at tb
 have bc:=burn_cache d
 have bs:=burn_secs d
 cases g6:(d.Fuse==0)
 rotate_left
 ·have g7:d.Fuse=0:=by simpa using g6
  rw [if_pos g7] at e
  refine .of (tb) ?_
  try simp -implicitDefEqProofs (maxSteps:=1000000) only [go_sem,g6,take_all,e,g1,DevV.enc]
  repeat refine ⟨sc,?_⟩
  try exact sf
  try rfl
 have g7:¬ d.Fuse=0:=by simpa using g6
 rw [if_neg g7] at e
 refine C1 (tb) g6 ?_
 refine loop_of (σ:=Nat×List (List UInt8)) (fun x=>⟨[(2,.bp 2 0),(3,.bp 3 0),(26,.one (.rf 45 1 [] 2 0 d.Cache.length)),(27,.one (.pv (.int .i64 d.Cache.length))),(28,.one (.pv (.int .i64 x.1)))],[(2,[.nils 1,.nils 2,.pv (.int .i64 0),.pv (.bool false)]),(3,[.rf 45 0 [] 1 0 d.Secs.length,.rf 45 1 [] 2 0 d.Cache.length,.pv (.int .i64 d.burn.Fuse),.pv (.bool d.burn.Down)])],[(0,d.enc false),(45,[slT true 1 (secR true) x.2,Tr.sl true 2 () (mvRows d.Cache x.1),iT d.burn.Fuse,bT d.burn.Down,bT true])]⟩) (fun x=>x.1≤d.Cache.length∧x.2=flushed d.Secs (d.Cache.take x.1)) (fun x=>d.Cache.length - x.1) (0,d.Secs) ?_ ⟨Nat.zero_le _,rfl⟩ ?_
 ·simp -implicitDefEqProofs (maxSteps:=1000000) only [go_sem,bs,bc]
  try rfl
 ·rintro ⟨i,S⟩ ⟨hi,he⟩
  simp only at hi he
  have hl:S.length=d.Secs.length:=by rw [he,flushed_len]
  have hl2:(List.map (secR true) S).length=d.Secs.length:=by rw [List.length_map,hl]
  cases q:decide ((i:Int) < (d.Cache.length:Int))
  ·have k0:i=d.Cache.length:=by simp only [decide_eq_false_iff_not] at q; omega
   rw [k0,List.take_length] at he
   have et:List.take d.Secs.length (List.map (secR true) S)=List.map (secR true) S:=List.take_of_length_le (by omega)
   rw [← he] at e
   exact F3 q et e
  ·have k1:i < d.Cache.length:=by simp only [decide_eq_true_eq] at q; omega
   have hw:=hidx _ (List.getElem_mem k1)
   have hb:d.Cache[i].B.length≤2 ^ 20:=hin.2.2 _ (List.getElem_mem k1)
   have g8:decide (0≤d.Cache[i].N)=true:=decide_eq_true hw.1
   have hn:d.Cache[i].N.toNat < S.length:=by omega
   have em:=mv_get k1
   have ec:(mvRows d.Cache i).getD i []=d.Cache[i].enc true:=by rw [List.getD_eq_getElem?_getD,em]; rfl
   have ex:=mv_set k1
   have eg:=getS hn
   have es:=setS S d.Cache[i].N.toNat d.Cache[i].B
   try simp -implicitDefEqProofs (maxSteps:=1000000) only [go_sem,q,em,ec,ex,mv_len]
   repeat refine ⟨sc,?_⟩
   try exact sf
   refine .of (c_i_joined [d.Cache[i].B] (by rw [flat1]; omega) (by show 1≤2 ^ 31; decide)) ?_
   try simp -implicitDefEqProofs (maxSteps:=1000000) only [go_sem,flat1,take_all,g8,em,ec,ex,mv_len,storeAp,setCells,eg,es,hl2]
   repeat refine ⟨sc,?_⟩
   try exact sf
   refine ⟨(i + 1,S.set d.Cache[i].N.toNat d.Cache[i].B),?_,⟨k1,by rw [he,flushed_step k1]⟩,by simp only; omega⟩
   rw [IntWalk.i64_in _ (by omega)]
   rfl
def x_i_DevNew:FnX:=⟨10,[.cell 2 (some 4)],
  .q [.op 2 (.alloc [.nils 1,.nils 2,.i 0,.F])]
 (.seq (.q [.m 3 0,.op 4 (.call 90 [0,0,0] [(.t 3),(.i 1),(.i 64)]),.N 5 4]
 (.c 5 (.q [.op 6 (.build [.nils 1,.nils 2,.i 0,.F] []),.s 100001 4 2 6]
 .ret)))
 (.q [.m 7 0,.op 8 (.mks 1 24 [.sl true 1 () []] (.t 7)),.op 9 (.build [.nils 1,.nils 2,.i 0,.F] [(0,1,(.t 8)),(2,1,(.i (-1)))]),.s 100002 4 2 9]
 .ret))⟩
theorem r_i_DevNew {Te:TE} (c_i_within:C_i_within Te):C_i_DevNew (RF Te x_i_DevNew):=by
 intro n
 refine X0 x_i_DevNew.eq_1 ?_
 refine C0 (c_i_within _ _ _) ?_
 cases g:win n 1 64
 ·have e:devNew n=⟨[],[],0,false⟩:=by rw [devNew,g]; rfl
  exact F1 e
 ·have e:devNew n=⟨List.replicate n.toNat [],[],-1,false⟩:=by rw [devNew,g]; rfl
  have g':=g
  simp only [win,Bool.and_eq_true,decide_eq_true_eq] at g'
  have gz:decide (0≤n)=true:=decide_eq_true (by omega)
  have gr:=rep_secs n.toNat
  have et:List.take n.toNat (List.map (secR true) (List.replicate n.toNat []))=List.map (secR true) (List.replicate n.toNat []):=List.take_of_length_le (by simp)
  exact F4 gz gr e et
def x_s_DevNew:FnX:=⟨22,[.cell 2 (some 4)],
  .q [.op 2 (.alloc [.nils 1,.nils 2,.i 0,.F])]
 (.seq (.q [.m 5 0,.op 6 (.call 120 [0,0,0] [(.t 5),(.i 1),(.i 64)]),.N 7 6]
 (.c 7 (.q [.op 8 (.build [.nils 1,.nils 2,.i 0,.F] []),.s 100001 4 2 8]
 .ret)))
 (.q [.op 9 (.build [.nils 1,.nils 2,.i 0,.F] [(2,1,(.i (-1)))]),.op 3 (.alloc [.nils 1,.nils 2,.i 0,.F]),.s 100002 4 3 9]
 (.seq (.q [.i 4 0]
 (.up 3 0 300000 (.block 0 (.loop [0,2,3,4] (.seq (.q [.m 10 4,.m 11 0,.b 12 .lss 10 11]
 (.cond 12 .skip (.exit 0)))
 (.seq (.block 1 (.reg [.f 15 3 0,.l 16 15,.op 17 (.bslice 1 []),.op 18 (.bslice 1 [(.t 17)]),.op 19 (.app 1 24 (.t 16) (.t 18)),.f 20 3 0,.s 100003 1 20 19]))
 (.reg [.m 13 4,.B 14 .add 13 1,.m 4 14])))))))
 (.norm [2,3] (.q [.L 21 4 3,.s 100004 4 2 21]
 .ret)))))⟩
theorem r_s_DevNew {Te:TE} (c_s_l1In:C_s_l1In Te):C_s_DevNew (RF Te x_s_DevNew):=by
 intro n
 refine X0 x_s_DevNew.eq_1 ?_
 refine C0 (c_s_l1In _ _ _) ?_
 cases g:win n 1 64
 ·have e:devNew n=⟨[],[],0,false⟩:=by rw [devNew,g]; rfl
  exact F1 e
 ·have e:devNew n=⟨List.replicate n.toNat [],[],-1,false⟩:=by rw [devNew,g]; rfl
  have g':=g
  simp only [win,Bool.and_eq_true,decide_eq_true_eq] at g'
  refine G0 ?_
  refine loop_of (σ:=Nat×List (List UInt8)) (fun x=>⟨[(0,.one (.pv (.int .i64 n))),(2,.bp 2 0),(3,.bp 3 0),(4,.one (.pv (.int .i64 x.1)))],[(2,[.nils 1,.nils 2,.pv (.int .i64 0),.pv (.bool false)]),(3,[.rf 23 0 [] 1 0 x.2.length,.nils 2,.pv (.int .i64 (-1)),.pv (.bool false)])],[(0,[iT n]),(23,[slT true 1 (secR true) x.2])]⟩) (fun x=>x.1≤n.toNat∧x.2=List.replicate x.1 []) (fun x=>n.toNat - x.1) (0,[]) ?_ ⟨Nat.zero_le _,rfl⟩ ?_
  ·simp -implicitDefEqProofs (maxSteps:=1000000) only [go_sem]
   try rfl
  ·rintro ⟨i,l⟩ ⟨hi,he⟩
   simp only at hi he
   have hl:l.length=i:=by rw [he,List.length_replicate]
   cases q:decide ((i:Int) < n)
   ·have k0:i=n.toNat:=by simp only [decide_eq_false_iff_not] at q; omega
    have e2:devNew n=⟨l,[],-1,false⟩:=by rw [e,he,k0]
    exact F2 q e2
   ·have k1:i < n.toNat:=by simp only [decide_eq_true_eq] at q; omega
    have ea:List.map (secR true) l++[[Tr.sl true 1 () []]]=List.map (secR true) (l++[[]]):=app1S l []
    refine G2 q ea ?_
    refine ⟨(i + 1,l++[[]]),?_,⟨k1,by rw [he,rep_step]⟩,by simp only; omega⟩
    rw [IntWalk.i64_in _ (by omega)]
    simp only [List.length_append]
    rfl
def x_s_Decode:FnX:=⟨35,[.tmp 4,.tmp 5],
  .q [.op 4 (.mv (.k (.one (.pv (.string ⟨#[]⟩))))),.F 5]
 (.q [.op 11 (.bslice 1 []),.m 6 11]
 (.seq (.q [.m 12 0,.c 13 187 [12],.N 14 13]
 (.c 14 (.q [.op 4 (.mv (.k (.one (.pv (.string ⟨#[]⟩))))),.F 5]
 .ret)))
 (.seq (.q [.i 7 0]
 (.block 0 (.loop [0,1,6,7] (.seq (.q [.m 15 7,.m 16 1,.n 17 16,.b 18 .lss 15 17]
 (.cond 18 .skip (.exit 0)))
 (.block 1 (.q [.m 20 0,.m 21 1,.m 22 7,.c 23 188 [20,21,22],.m 19 23,.e 24 19 0,.e 25 19 1,.e 26 19 2,.m 8 24,.m 9 25,.m 10 26]
 (.seq (.q [.m 27 10,.N 28 27]
 (.c 28 (.q [.op 4 (.mv (.k (.one (.pv (.string ⟨#[]⟩))))),.F 5]
 .ret)))
 (.q [.m 29 6,.m 30 8,.c 31 189 [29,30],.m 6 31]
 (.reg [.m 32 9,.m 7 32])))))))))
 (.norm [6] (.q [.m 33 6,.op 34 (.conv .b2s (.t 33)),.m 4 34,.T 5]
 .ret)))))⟩
theorem r_s_Decode {Te:TE} (c_s_l5Cs:C_s_l5Cs Te) (c_s_l5Get:C_s_l5Get Te) (c_s_PutSign:C_s_PutSign Te):C_s_Decode (RF Te x_s_Decode):=by
 intro cs b hb
 cases g:win cs 0 5
 ·have e:decode cs b=(⟨#[]⟩,false):=by rw [decode,g]; rfl
  refine X0 x_s_Decode.eq_1 ?_
  exact D2 (c_s_l5Cs _) g e
 ·have e:decode cs b=decGo cs b b.length 0 []:=by rw [decode,g]; rfl
  rw [e]
  generalize hD:decGo cs b b.length 0 []=D
  refine X0 x_s_Decode.eq_1 ?_
  refine C1 (c_s_l5Cs _) g ?_
  refine loop_of (σ:=Nat×Nat×List UInt8) (fun x=>⟨[(0,.one (.pv (.int .i64 cs))),(1,.one (.ro 1 (b.map uR))),(6,.one (.rf 37 0 [] 1 0 x.2.2.length)),(7,.one (.pv (.int .i64 x.2.1)))],[],[(0,[iT cs]),(1,[slT false 1 uR b]),(37,[slT true 1 uR x.2.2])]⟩) (fun x=>x.2.1≤b.length∧b.length≤x.1 + x.2.1∧x.2.2.length≤4 * x.2.1∧decGo cs b x.1 x.2.1 x.2.2=D) (fun x=>b.length - x.2.1) (b.length,0,[]) ?_ ⟨Nat.zero_le _,Nat.le_refl _,Nat.zero_le _,hD⟩ ?_
  ·simp -implicitDefEqProofs (maxSteps:=1000000) only [go_sem]
   try rfl
  ·rintro ⟨fu,i,out⟩ ⟨hi,hf,ho,hd⟩
   simp only at hi hf ho hd
   cases q:decide ((i:Int) < (b.length:Int))
   ·have hq:¬ (i:Int) < (b.length:Int):=by simpa using q
    rw [dec_end hq] at hd
    subst hd
    refine G1 q ?_
    refine ⟨areBytes_uR out,?_⟩
    rw [bytesOf_uD]
    try rfl
   ·have hq:(i:Int) < (b.length:Int):=by simpa using q
    obtain ⟨f,rfl⟩:∃ f,fu=f + 1:=⟨fu - 1,by omega⟩
    have hs:=c_s_l5Get cs b i (by omega) ⟨by omega,hq⟩
    cases g2:(signIn cs b i).2.2
    ·rw [dec_bad hq g2] at hd
     subst hd
     refine G1 q ?_
     exact D1 (hs) g2
    ·rw [dec_step hq g2] at hd
     have hn:=signIn_next ⟨by omega,hq⟩ g2
     generalize signIn cs b i=r at hs g2 hd hn
     obtain ⟨n,nx,ok⟩:=r
     simp only at hs g2 hd hn
     subst g2
     obtain ⟨j,rfl⟩:∃ j:Nat,nx=j:=⟨nx.toNat,by omega⟩
     have hl:=putSign_len out n
     refine G1 q ?_
     refine C0 (hs) ?_
     refine C0 (c_s_PutSign out n (by omega)) ?_
     exact ⟨(f,j,putSign out n),rfl,⟨by simp only; omega,by simp only; omega,by simp only; omega,hd⟩,by simp only; omega⟩
def x_i_PutText:FnX:=⟨19,[.tmp 4],
  .q [.op 4 (.mv (.k (.one (.nils 1))))]
 (.seq (.q [.m 5 1,.op 6 (.slen (.t 5)),.B 7 .gtr 6 60]
 (.c 7 (.q [.m 8 0,.op 9 (.bslice 1 [(.t 8)]),.c 10 100 [9],.m 4 10]
 .ret)))
 (.q [.m 11 0,.m 12 1,.op 13 (.slen (.t 12)),.c 14 312 [11,13],.m 15 1,.op 16 (.conv .s2b (.t 15)),.op 17 (.bslice 1 [(.t 14),(.t 16)]),.c 18 100 [17],.m 4 18]
 .ret))⟩
theorem r_i_PutText {Te:TE} (c_i_joined:C_i_joined Te) (c_i_PutW:C_i_PutW Te):C_i_PutText (RF Te x_i_PutText):=by
 intro b t h ht
 refine run0 ?_
 simp -implicitDefEqProofs (maxSteps:=1000000) only [x_i_PutText,go_sem]
 refine ⟨fun q=>?_,fun q=>?_⟩
 ·have q':(t.size:Int) > 60:=by simpa using q
  simp only [putText,if_pos q']
  refine .of (c_i_joined [b] (by rw [flat1]; omega) (by show 1≤2 ^ 31; decide)) ?_
  try simp -implicitDefEqProofs (maxSteps:=1000000) only [go_sem,flat1]
  repeat refine ⟨sc,?_⟩
  try exact sf
 ·have q':¬ ((t.size:Int) > 60):=by simpa using q
  have q3:t.data.toList.length=t.size:=by rw [Array.length_toList]; rfl
  have el:=putW_len b t.size
  simp only [putText,if_neg q']
  refine .of (c_i_PutW b _ (by omega)) ?_
  try simp -implicitDefEqProofs (maxSteps:=1000000) only [go_sem,ofBytes_eq]
  repeat refine ⟨sc,?_⟩
  try exact sf
  refine .of (c_i_joined [putW b t.size,t.data.toList] (by rw [flat2,List.length_append,el]; omega) (by show 2≤2 ^ 31; decide)) ?_
  simp -implicitDefEqProofs (maxSteps:=1000000) only [go_sem,flat2]
  refine ⟨decide_eq_true (Nat.le_refl _),?_⟩
  rw [List.take_of_length_le (by rw [List.length_map,List.length_append]; exact Nat.le_refl _)]
end Go.X

