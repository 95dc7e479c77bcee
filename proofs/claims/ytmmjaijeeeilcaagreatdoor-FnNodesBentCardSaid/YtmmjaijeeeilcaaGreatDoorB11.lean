/- Texts: CVf_3 CVr CVzb CVzr CVp CVi CP_2 CVd CVb CVj_5 CVzc_2. -/
import Derived.Test.YtmmjaijeeeilcaaGreatDoorB04
set_option linter.unusedVariables false
set_option linter.unusedSimpArgs false
namespace Go.X
set_option maxRecDepth 100000
set_option maxHeartbeats 8000000
def x_s_TabOk:FnX:=⟨82,[.tmp 2],
  .q [.v 1 0,.F 2]
 (.seq (.q [.i 3 0]
 (.block 0 (.loop [1,3] (.seq (.q [.m 5 3,.f 6 1 0,.l 7 6,.n 8 7,.b 9 .lss 5 8]
 (.cond 9 .skip (.exit 0)))
 (.seq (.block 1 (.seq (.draw [.f 12 1 0,.l 13 12,.m 14 3,.x 15 7 13 14,.L 16 7 15,.c 17 289 [16],.N 18 17,.m 19 18,.z 19 (.m 20 3),.z 19 (.B 21 .gtr 20 0),.z 19 (.m 22 21),.y 22 (.f 23 1 0),.y 22 (.l 24 23),.y 22 (.m 25 3),.y 22 (.B 26 .sub 25 1),.y 22 (.x 27 7 24 26),.y 22 (.f 28 27 0),.y 22 (.l 29 28),.y 22 (.f 30 1 0),.y 22 (.l 31 30),.y 22 (.m 32 3),.y 22 (.x 33 7 31 32),.y 22 (.f 34 33 0),.y 22 (.l 35 34),.y 22 (.b 36 .geq 29 35),.z 19 (.a 37 22 36),.r 38 19 37] [[],[0],[],[1,2],[3],[4],[5],[6,5],[7],[8,7],[9,7,7],[10],[11,10],[10],[13,10],[12,14,10],[15,10],[16,10],[10],[18,10],[10],[19,20,10],[21,10],[22,10],[17,23,10],[10,24,7],[7,25]])
 (.c 38 (.q [.F 2]
 .ret))))
 (.reg [.m 10 3,.B 11 .add 10 1,.m 3 11]))))))
 (.norm [1] (.seq (.q [.i 4 0]
 (.block 2 (.loop [1,4] (.seq (.q [.m 39 4,.f 40 1 2,.l 41 40,.n 42 41,.b 43 .lss 39 42]
 (.cond 43 .skip (.exit 2)))
 (.seq (.block 3 (.seq (.draw [.f 46 1 2,.l 47 46,.m 48 4,.x 49 3 47 48,.L 50 3 49,.c 51 292 [50],.N 52 51,.m 53 52,.z 53 (.m 54 4),.z 53 (.B 55 .gtr 54 0),.z 53 (.m 56 55),.y 56 (.f 57 1 2),.y 56 (.l 58 57),.y 56 (.m 59 4),.y 56 (.B 60 .sub 59 1),.y 56 (.x 61 3 58 60),.y 56 (.f 62 61 0),.y 56 (.l 63 62),.y 56 (.f 64 1 2),.y 56 (.l 65 64),.y 56 (.m 66 4),.y 56 (.x 67 3 65 66),.y 56 (.f 68 67 0),.y 56 (.l 69 68),.y 56 (.b 70 .geq 63 69),.z 53 (.a 71 56 70),.r 72 53 71] [[],[0],[],[1,2],[3],[4],[5],[6,5],[7],[8,7],[9,7,7],[10],[11,10],[10],[13,10],[12,14,10],[15,10],[16,10],[10],[18,10],[10],[19,20,10],[21,10],[22,10],[17,23,10],[10,24,7],[7,25]])
 (.c 72 (.q [.F 2]
 .ret))))
 (.reg [.m 44 4,.B 45 .add 44 1,.m 4 45]))))))
 (.norm [1] (.q [.f 73 1 0,.l 74 73,.n 75 74,.B 76 .leq 75 8,.m 77 76,.y 77 (.f 78 1 1),.y 77 (.l 79 78),.y 77 (.op 80 (.call 120 [0,0,0] [(.t 79),(.i 0),(.i 7)])),.a 81 77 80,.m 2 81]
 .ret)))))⟩
theorem r_s_TabOk {Te:TE} (c_s_RowOk:C_s_RowOk Te) (c_s_l12Mark:C_s_l12Mark Te) (c_s_l1In:C_s_l1In Te):C_s_TabOk (RF Te x_s_TabOk):=by
 intro t h
 obtain ⟨⟨hl,hR⟩,hM⟩:=h
 refine X0 x_s_TabOk.eq_1 ?_
 refine loop_of (σ:=Nat) (fun i=>⟨[(1,.bp 1 0),(3,.one (.pv (.int .i64 i)))],[(1,[.ro 7 (t.Rows.map (RowV.enc false)),.pv (.int .i64 t.Phase),.ro 3 (t.Marks.map MarkV.row)])],[(0,t.enc false)]⟩) (fun i=>i≤t.Rows.length∧∀ j,j < i→rowGood t.Rows j=true) (fun i=>t.Rows.length - i) 0 ?_ ⟨Nat.zero_le _,fun j hj=>absurd hj (Nat.not_lt_zero _)⟩ ?_
 ·simp -implicitDefEqProofs (maxSteps:=1000000) only [go_sem]
  try rfl
 ·rintro i ⟨hi,hp⟩
  cases q:decide ((i:Int) < (t.Rows.length:Int))
  ·have eR:=rng_end (f:=rowGood t.Rows) (show t.Rows.length≤i by simp only [decide_eq_false_iff_not] at q; omega) hp
   refine G1 q ?_
   refine loop_of (σ:=Nat) (fun i=>⟨[(1,.bp 1 0),(4,.one (.pv (.int .i64 i)))],[(1,[.ro 7 (t.Rows.map (RowV.enc false)),.pv (.int .i64 t.Phase),.ro 3 (t.Marks.map MarkV.row)])],[(0,t.enc false)]⟩) (fun i=>i≤t.Marks.length∧∀ j,j < i→markGood t.Marks j=true) (fun i=>t.Marks.length - i) 0 ?_ ⟨Nat.zero_le _,fun j hj=>absurd hj (Nat.not_lt_zero _)⟩ ?_
   ·simp -implicitDefEqProofs (maxSteps:=1000000) only [go_sem]
    try rfl
   ·rintro i ⟨hi,hp⟩
    cases q:decide ((i:Int) < (t.Marks.length:Int))
    ·have eM:=rng_end (f:=markGood t.Marks) (show t.Marks.length≤i by simp only [decide_eq_false_iff_not] at q; omega) hp
     refine G1 q ?_
     cases gl:decide ((t.Rows.length:Int)≤8)
     ·have e:t.ok=false:=by simp only [TabV.ok,gl,Bool.and_false,Bool.false_and]
      exact F2 gl e
     ·have e:t.ok=win t.Phase 0 7:=by simp only [TabV.ok,eR,eM,gl,Bool.true_and]
      refine G1 gl ?_
      exact D1 (c_s_l1In _ _ _) e
    ·have k1:i < t.Marks.length:=by simp only [decide_eq_true_eq] at q; omega
     cases i with
     | zero =>
      have z:decide (((0:Nat):Int) > 0)=false:=rfl
      have good0:=markGood_zero k1
      refine G3 q (List.getElem?_eq_getElem k1) z ?_
      refine C0 (c_s_l12Mark t.Marks[0]) ?_
      cases g:t.Marks[0].ok
      ·have e:t.ok=false:=by simp only [TabV.ok,rng_not k1 (good0.trans g),Bool.and_false,Bool.false_and]
       exact F1 e
      ·refine G1 z ?_
       refine ⟨1,by rw [IntWalk.i64_in _ (by omega)]; rfl,⟨k1,rng_step hp (good0.trans g)⟩,by omega⟩
     | succ j =>
      have k0:j < t.Marks.length:=by omega
      have z:decide (((j + 1:Nat):Int) > 0)=true:=decide_eq_true (by omega)
      have ew:IntKind.i64.wrap (((j + 1:Nat):Int) - 1)=(j:Int):=by rw [IntWalk.i64_in _ (by omega)]; omega
      have good1:=markGood_succ k1
      refine G3 q (List.getElem?_eq_getElem k1) z ?_
      refine C0 (c_s_l12Mark t.Marks[j + 1]) ?_
      cases g:t.Marks[j + 1].ok
      ·have gg:markGood t.Marks (j + 1)=false:=by rw [good1,g,Bool.false_and]
       have e:t.ok=false:=by simp only [TabV.ok,rng_not k1 gg,Bool.and_false,Bool.false_and]
       exact F1 e
      ·cases g2:decide (t.Marks[j].Who≥t.Marks[j + 1].Who)
       ·have gg:markGood t.Marks (j + 1)=true:=by rw [good1,g,g2]; rfl
        try simp -implicitDefEqProofs (maxSteps:=1000000) only [go_sem,z,ew,List.getElem?_eq_getElem k0,List.getElem?_eq_getElem k1,g2]
        repeat refine ⟨sc,?_⟩
        try exact sf
        refine ⟨j + 2,by rw [IntWalk.i64_in _ (by omega)]; rfl,⟨k1,rng_step hp gg⟩,by omega⟩
       ·have gg:markGood t.Marks (j + 1)=false:=by rw [good1,g2]; simp only [Bool.not_true,Bool.and_false]
        have e:t.ok=false:=by simp only [TabV.ok,rng_not k1 gg,Bool.and_false,Bool.false_and]
        try simp -implicitDefEqProofs (maxSteps:=1000000) only [go_sem,z,ew,List.getElem?_eq_getElem k0,List.getElem?_eq_getElem k1,g2,e]
        repeat refine ⟨sc,?_⟩
        try exact sf
  ·have k1:i < t.Rows.length:=by simp only [decide_eq_true_eq] at q; omega
   cases i with
   | zero =>
    have z:decide (((0:Nat):Int) > 0)=false:=rfl
    have good0:=rowGood_zero k1
    refine G3 q (List.getElem?_eq_getElem k1) z ?_
    refine C0 (c_s_RowOk t.Rows[0] (hR _ (List.getElem_mem k1))) ?_
    cases g:t.Rows[0].ok
    ·have e:t.ok=false:=by simp only [TabV.ok,rng_not k1 (good0.trans g),Bool.false_and]
     exact F1 e
    ·refine G1 z ?_
     refine ⟨1,by rw [IntWalk.i64_in _ (by omega)]; rfl,⟨k1,rng_step hp (good0.trans g)⟩,by omega⟩
   | succ j =>
    have k0:j < t.Rows.length:=by omega
    have z:decide (((j + 1:Nat):Int) > 0)=true:=decide_eq_true (by omega)
    have ew:IntKind.i64.wrap (((j + 1:Nat):Int) - 1)=(j:Int):=by rw [IntWalk.i64_in _ (by omega)]; omega
    have good1:=rowGood_succ k1
    refine G3 q (List.getElem?_eq_getElem k1) z ?_
    refine C0 (c_s_RowOk t.Rows[j + 1] (hR _ (List.getElem_mem k1))) ?_
    cases g:t.Rows[j + 1].ok
    ·have gg:rowGood t.Rows (j + 1)=false:=by rw [good1,g,Bool.false_and]
     have e:t.ok=false:=by simp only [TabV.ok,rng_not k1 gg,Bool.false_and]
     exact F1 e
    ·cases g2:Op.bytesLess t.Rows[j].Key.toList t.Rows[j + 1].Key.toList
     ·have gg:rowGood t.Rows (j + 1)=false:=by rw [good1,g2,Bool.and_false]
      have e:t.ok=false:=by simp only [TabV.ok,rng_not k1 gg,Bool.false_and]
      try simp -implicitDefEqProofs (maxSteps:=1000000) only [go_sem,z,ew,List.getElem?_eq_getElem k0,List.getElem?_eq_getElem k1,g2,e]
      repeat refine ⟨sc,?_⟩
      try exact sf
     ·have gg:rowGood t.Rows (j + 1)=true:=by rw [good1,g,g2]; rfl
      try simp -implicitDefEqProofs (maxSteps:=1000000) only [go_sem,z,ew,List.getElem?_eq_getElem k0,List.getElem?_eq_getElem k1,g2]
      repeat refine ⟨sc,?_⟩
      try exact sf
      refine ⟨j + 2,by rw [IntWalk.i64_in _ (by omega)]; rfl,⟨k1,rng_step hp gg⟩,by omega⟩
def x_i_withRow:FnX:=⟨48,[.tmp 4],
  .q [.v 3 1,.op 4 (.mv (.k (.one (.nils 7))))]
 (.q [.op 9 (.bslice 7 []),.m 5 9]
 (.q [.F 6]
 (.seq (.q [.m 10 0,.n 11 10,.i 12 0]
 (.block 0 (.loop [3,5,6,10,11,12] (.q [.b 13 .lss 12 11]
 (.seq (.cond 13 .skip (.exit 0))
 (.seq (.block 1 (.q [.x 14 7 10 12,.L 15 7 14,.op 8 (.alloc [.e,.i 0,.nils 1,.i 0,.nils 1,.i 0,.F]),.s 100001 7 8 15]
 (.seq (.q [.m 16 6,.N 17 16,.m 18 17,.y 18 (.f 19 8 0),.y 18 (.l 20 19),.y 18 (.f 21 3 0),.y 18 (.l 22 21),.y 18 (.b 23 .geq 20 22),.a 24 18 23]
 (.c 24 (.q [.m 25 5,.L 26 7 3,.c 27 252 [26],.op 28 (.bslice 7 [(.t 27)]),.op 29 (.app 7 96 (.t 25) (.t 28)),.m 5 29]
 (.reg [.T 6]))))
 (.q [.f 30 8 0,.l 31 30,.f 32 3 0,.l 33 32,.b 34 .neq 31 33]
 (.c 34 (.reg [.m 35 5,.L 36 7 8,.op 37 (.bslice 7 [(.t 36)]),.op 38 (.app 7 96 (.t 35) (.t 37)),.m 5 38]))))))
 (.reg [.B 39 .add 12 1,.m 12 39])))))))
 (.norm [3,5,6] (.seq (.q [.m 40 6,.N 41 40]
 (.c 41 (.reg [.m 42 5,.L 43 7 3,.c 44 252 [43],.op 45 (.bslice 7 [(.t 44)]),.op 46 (.app 7 96 (.t 42) (.t 45)),.m 5 46])))
 (.q [.m 47 5,.m 4 47]
 .ret))))))⟩
theorem r_i_withRow {Te:TE} (c_i_copyRow:C_i_copyRow Te):C_i_withRow (RF Te x_i_withRow):=by
 intro l r h hr
 refine X0 x_i_withRow.eq_1 ?_
 refine loop_of (σ:=Nat×List RowV×Bool) (fun x=>⟨[(3,.bp 3 0),(5,.one (.rf 50 0 [] 7 0 x.2.1.length)),(6,.one (.pv (.bool x.2.2))),(10,.one (.rf 0 0 [] 7 0 l.length)),(11,.one (.pv (.int .i64 l.length))),(12,.one (.pv (.int .i64 x.1)))],[(3,[.pv (.string r.Key),.pv (.int .i64 r.Old.Tag),.ro 1 (r.Old.B.map uR),.pv (.int .i64 r.New.Tag),.ro 1 (r.New.B.map uR),.pv (.int .i64 r.Has),.pv (.bool r.Aside)])],[(0,[Tr.sl true 7 () (leftRows r l x.1)]),(1,r.enc false),(50,[slT true 7 (RowV.enc true) x.2.1])]⟩) (fun x=>x.1≤l.length∧x.2=(l.take x.1).foldl (insR r) ([],false)) (fun x=>l.length - x.1) (0,[],false) ?_ ⟨Nat.zero_le _,rfl⟩ ?_
 ·simp -implicitDefEqProofs (maxSteps:=1000000) only [go_sem,left_zero]
  try rfl
 ·rintro ⟨i,o,p⟩ ⟨hi,he⟩
  simp only at hi he
  have hol:o.length≤2 * l.length:=by
   have:=insR_le r (l.take i) ([],false)
   rw [← he] at this
   simp only [List.length_nil,List.length_take] at this
   omega
  have ea:=app1Rw o r
  have et:List.take (o.length + 1) (List.map (RowV.enc true) (o++[r]))=List.map (RowV.enc true) (o++[r]):=List.take_of_length_le (by simp)
  cases q:decide ((i:Int) < (l.length:Int))
  ·have k0:i=l.length:=by simp only [decide_eq_false_iff_not] at q; omega
   rw [k0,List.take_length] at he
   subst k0
   cases p
   ·have e:insRow l r=o++[r]:=by rw [insRow,← he]; rfl
    refine G1 q ?_
    exact D3 (c_i_copyRow r hr) e ea et
   ·have e:insRow l r=o:=by rw [insRow,← he]; rfl
    exact F2 q e
  ·have k1:i < l.length:=by simp only [decide_eq_true_eq] at q; omega
   have es:=insR_step (r:=r) k1
   rw [← he] at es
   have eg:=left_get (r:=r) k1
   have ed:(leftRows r l i).getD i []=l[i].enc true:=by rw [List.getD_eq_getElem?_getD,eg]; rfl
   have el:=left_len r l i
   have ex:=left_set (r:=r) k1
   have e1:∀ X:List T,((leftRows r l i).set i X)[i]?=some X:=fun X=>List.getElem?_set_self (by rw [el]; exact k1)
   have e2:∀ X:List T,((leftRows r l i).set i X).getD i []=X:=fun X=>by rw [List.getD_eq_getElem?_getD,e1]; rfl
   have eb:=app1Rw o l[i]
   have ec:=app1Rw (o++[r]) l[i]
   cases g2:decide (l[i].Key=r.Key) <;> cases g1:Op.bytesLess l[i].Key.toList r.Key.toList <;> cases p
   all_goals
    simp only [insR,g1,g2,Bool.not_true,Bool.not_false,Bool.and_true,Bool.and_false,Bool.or_true,Bool.or_false,Bool.true_or,Bool.false_or,Bool.true_and,Bool.false_and,if_true,if_false,Bool.false_eq_true] at es
    simp only [leftR,g2,if_true,if_false,Bool.false_eq_true] at ex
    try simp -implicitDefEqProofs (maxSteps:=1000000) only [go_sem,q,g1,g2,eg,ed,el,ex,e1,e2,List.set_set,List.length_set,take_rows,take_all,ea,eb,ec,et]
    repeat refine ⟨sc,?_⟩
   all_goals try (refine .of (c_i_copyRow r hr) ?_; try simp -implicitDefEqProofs (maxSteps:=1000000) only [go_sem,g1,g2,eg,ed,el,ex,e1,e2,List.set_set,List.length_set,take_rows,take_all,ea,eb,ec,et])
   all_goals
    repeat refine ⟨sc,?_⟩
   all_goals
    refine ⟨(i + 1,(l.take (i + 1)).foldl (insR r) ([],false)),?_,⟨k1,rfl⟩,by simp only; omega⟩
    rw [← es,IntWalk.i64_in _ (by omega)]
    try simp only [List.length_append]
    try rw [left_same k1 g2]
    rfl
def x_i_putRec:FnX:=⟨46,[.cell 6 (some 13),.tmp 7],
  .q [.v 3 0,.op 6 (.alloc [.i 0,.e,.i 0,.nils 1,.i 0,.nils 1,.i 0,.F,.e,.i 0,.i 0,.i 0,.i 0]),.i 7 0]
 (.q [.f 11 3 0,.f 12 11 4,.f 13 12 1,.l 14 13,.m 15 1,.f 16 3 9,.l 17 16,.m 18 2,.c 19 167 [14,15,17,18],.m 10 19,.e 20 10 0,.e 21 10 1,.op 8 (.alloc [.e,.i 0,.nils 1,.i 0,.nils 1,.i 0,.F]),.s 100001 7 8 20,.m 9 21]
 (.seq (.q [.m 22 9,.B 23 .eql 22 0,.m 24 23,.y 24 (.f 25 3 0),.y 24 (.f 26 25 4),.y 24 (.L 27 3 26),.y 24 (.m 28 1),.y 24 (.c 29 87 [27,28]),.y 24 (.B 30 .lss 29 0),.a 31 24 30,.m 32 31,.y 32 (.f 33 3 0),.y 32 (.f 34 33 4),.y 32 (.f 35 34 0),.y 32 (.l 36 35),.y 32 (.n 37 36),.y 32 (.B 38 .eql 37 8),.a 39 32 38]
 (.c 39 (.reg [.i 9 5])))
 (.seq (.q [.m 40 9,.B 41 .neq 40 0]
 (.c 41 (.q [.op 42 (.build [.i 0,.e,.i 0,.nils 1,.i 0,.nils 1,.i 0,.F,.e,.i 0,.i 0,.i 0,.i 0] [(0,1,(.i 4))]),.m 43 9,.s 100002 13 6 42,.m 7 43]
 .ret)))
 (.q [.L 44 7 8,.op 45 (.build [.i 0,.e,.i 0,.nils 1,.i 0,.nils 1,.i 0,.F,.e,.i 0,.i 0,.i 0,.i 0] [(0,1,(.i 1)),(1,7,(.t 44))]),.s 100003 13 6 45,.i 7 0]
 .ret))))⟩
theorem r_i_putRec {Te:TE} (c_i_RowOf:C_i_RowOf Te) (c_i_RowAt:C_i_RowAt Te):C_i_putRec (RF Te x_i_putRec):=by
 intro n key s hn hk hs
 refine X0 x_i_putRec.eq_1 ?_
 refine C0 (c_i_RowOf n.S.T.Phase key n.Cs s hk hs) ?_
 cases g1:((rowOf n.S.T.Phase key n.Cs s).2==0)
 ·have e:n.putCode key s=(rowOf n.S.T.Phase key n.Cs s).2:=by rw [NodeV.putCode,g1]; rfl
  have g2:((rowOf n.S.T.Phase key n.Cs s).2 != 0)=true:=by rw [bne_eq,g1]; rfl
  try simp -implicitDefEqProofs (maxSteps:=1000000) only [go_sem,g1,g2,e,putRecV,take_rows]
  repeat refine ⟨sc,?_⟩
  try exact sf
  try rfl
 ·have g0:(rowOf n.S.T.Phase key n.Cs s).2=0:=eq_of_beq g1
  refine G1 g1 ?_
  refine C0 (c_i_RowAt n.S.T key hn) ?_
  cases g2:decide (rowAt n.S.T.Rows key < 0)
  ·have e:n.putCode key s=0:=by rw [NodeV.putCode,g1,g2]; exact g0
   try simp -implicitDefEqProofs (maxSteps:=1000000) only [go_sem,g0,g2,e,putRecV,recRowBy,take_rows]
   repeat refine ⟨sc,?_⟩
   try exact sf
   try rfl
  ·cases g3:((n.S.T.Rows.length:Int)==8)
   ·have e:n.putCode key s=0:=by rw [NodeV.putCode,g1,g2,g3]; exact g0
    try simp -implicitDefEqProofs (maxSteps:=1000000) only [go_sem,g0,g2,g3,e,putRecV,recRowBy,take_rows]
    repeat refine ⟨sc,?_⟩
    try exact sf
    try rfl
   ·have e:n.putCode key s=5:=by rw [NodeV.putCode,g1,g2,g3]; rfl
    try simp -implicitDefEqProofs (maxSteps:=1000000) only [go_sem,g2,g3,e,putRecV,recRowBy,take_rows]
    repeat refine ⟨sc,?_⟩
    try exact sf
    try rfl
def x_i_NodePut:FnX:=⟨54,[.cell 10 (some 10),.tmp 11,.tmp 12],
  .q [.v 5 0,.op 10 (.alloc [.nils 1,.nils 2,.i 0,.F,.nils 7,.i 0,.nils 3,.i 0,.i 0,.i 0]),.i 11 0,.F 12]
 (.seq (.q [.L 16 10 5,.c 17 82 [16],.N 18 17,.m 19 18,.z 19 (.m 20 1),.z 19 (.m 21 2),.z 19 (.c 22 72 [20,21]),.z 19 (.N 23 22),.r 24 19 23]
 (.c 24 (.q [.L 25 10 5,.c 26 60 [25],.s 100001 10 10 26,.i 11 1,.F 12]
 .ret)))
 (.q [.L 28 10 5,.m 29 1,.m 30 2,.c 31 73 [28,29,30],.m 27 31,.e 32 27 0,.e 33 27 1,.m 13 32,.m 14 33]
 (.seq (.q [.m 34 14]
 (.c 34 (.q [.L 35 10 5,.c 36 60 [35],.m 37 13,.s 100002 10 10 36,.m 11 37,.F 12]
 .ret)))
 (.q [.L 39 10 5,.m 40 3,.m 41 4,.c 42 75 [39,40,41],.m 38 42,.e 43 38 0,.e 44 38 1,.op 15 (.alloc [.i 0,.e,.i 0,.nils 1,.i 0,.nils 1,.i 0,.F,.e,.i 0,.i 0,.i 0,.i 0]),.s 100003 13 15 43,.m 13 44]
 (.q [.L 45 10 5,.m 46 1,.m 47 2,.L 48 13 15,.m 49 13,.c 50 91 [45,46,47,48,49],.e 51 50 0,.e 52 50 1,.e 53 50 2,.s 100004 10 10 51,.m 11 52,.m 12 53]
 .ret)))))⟩
theorem r_i_NodePut {Te:TE} (c_i_isUp:C_i_isUp Te) (c_i_mayAsk:C_i_mayAsk Te) (c_i_copyNode:C_i_copyNode Te) (c_i_askedBefore:C_i_askedBefore Te) (c_i_putRec:C_i_putRec Te) (c_i_change:C_i_change Te):C_i_NodePut (RF Te x_i_NodePut):=by
 intro n who seq key s hn hk hs
 have hL:=hn.len (by decide)
 refine X0 x_i_NodePut.eq_1 ?_
 refine C0 (c_i_isUp n (hn.mono (by decide))) ?_
 cases g1:n.up
 ·have e:n.putIn who seq key s=(n,1,false):=by rw [NodeV.putIn,old_no (by rw [g1]; rfl)]; rfl
  refine G0 ?_
  exact D1 (c_i_copyNode n hL) e
 refine G0 ?_
 refine C0 (c_i_mayAsk _ _) ?_
 cases g2:(win who 1 9&&win seq 1 65535)
 ·have e:n.putIn who seq key s=(n,1,false):=by rw [NodeV.putIn,old_no (by rw [g1,g2]; rfl)]; rfl
  refine G1 g2 ?_
  exact D1 (c_i_copyNode n hL) e
 have eo:=old_yes g1 g2
 refine G1 g2 ?_
 refine .of (c_i_askedBefore n _ _ (by have:=hn.2.2; omega)) ?_
 try simp -implicitDefEqProofs (maxSteps:=1000000) only [go_sem]
 repeat refine ⟨sc,?_⟩
 try exact sf
 rw [← eo]
 cases g3:(n.old who seq).2
 rotate_left
 ·have e:n.putIn who seq key s=(n,(n.old who seq).1,false):=by rw [NodeV.putIn,g3]; rfl
  refine G1 g3 ?_
  exact D1 (c_i_copyNode n hL) e
 have e:n.putIn who seq key s=n.changed ((putRecV n key s).by who seq (n.putCode key s)):=by rw [NodeV.putIn,g3,putRec_by]; rfl
 refine G1 g3 ?_
 refine C0 (c_i_putRec n key s (by have:=hn.2.1.1; omega) hk hs) ?_
 exact D1 (c_i_change n who seq (putRecV n key s) (n.putCode key s) hn (putRec_in hk)) e
def x_s_l15End:FnX:=⟨29,[.cell 4 (some 10),.tmp 5,.tmp 6],
  .q [.v 2 0,.v 3 1,.op 4 (.alloc [.nils 1,.nils 2,.i 0,.F,.nils 7,.i 0,.nils 3,.i 0,.i 0,.i 0]),.i 5 0,.F 6]
 (.q [.L 9 10 2,.c 10 65 [9],.op 7 (.alloc [.nils 1,.nils 2,.i 0,.F,.nils 7,.i 0,.nils 3,.i 0,.i 0,.i 0]),.s 100001 10 7 10]
 (.q [.f 11 3 12,.l 12 11,.m 8 12]
 (.seq (.q [.m 13 8,.B 14 .neq 13 0]
 (.c 14 (.reg [.f 15 3 10,.l 16 15,.f 17 3 11,.l 18 17,.f 19 3 12,.l 20 19,.op 21 (.build [.i 0,.e,.i 0,.nils 1,.i 0,.nils 1,.i 0,.F,.e,.i 0,.i 0,.i 0,.i 0] [(0,1,(.i 4)),(10,1,(.t 16)),(11,1,(.t 18)),(12,1,(.t 20))]),.s 100002 13 3 21])))
 (.seq (.q [.f 22 7 0,.L 23 13 3,.op 24 (.call 103 [11,0] [(.t 22),(.t 23)]),.N 25 24]
 (.c 25 (.q [.L 26 10 7,.s 100003 10 4 26,.i 5 5,.F 6]
 .ret)))
 (.q [.L 27 10 7,.m 28 8,.s 100004 10 4 27,.m 5 28,.T 6]
 .ret)))))⟩
theorem r_s_l15End {Te:TE} (c_s_l15Copy:C_s_l15Copy Te) (c_s_l13Add:C_s_l13Add Te):C_s_l15End (RF Te x_s_l15End):=by
 intro n r hu hn hr
 have hL:=hn.len (by decide)
 obtain ⟨k1,k2,_⟩:=up_ok hu
 refine X0 x_s_l15End.eq_1 ?_
 refine C0 (c_s_l15Copy n hL) ?_
 cases g:(r.Code != 0)
 ·have e1:=told_self g
  refine G1 g ?_
  refine C0 (c_s_l13Add n.S r k1 k2 hn.2 hr) ?_
  cases g2:(n.S.add r).2
  ·try simp -implicitDefEqProofs (maxSteps:=1000000) only [go_sem,g2,e1,NodeV.changed,NodeV.added,NodeV.enc,take_all,take_marks]
   repeat refine ⟨sc,?_⟩
   try exact sf
   try rfl
  ·try simp -implicitDefEqProofs (maxSteps:=1000000) only [go_sem,g2,e1,NodeV.changed,NodeV.added,NodeV.enc,take_all,take_marks]
   repeat refine ⟨sc,?_⟩
   try exact sf
   try rfl
 ·have e1:=told_who g
  have ec:r.told.Code=r.Code:=by rw [e1]; rfl
  refine G1 g ?_
  refine C0 (c_s_l13Add n.S (recWho r.Who r.Seq r.Code) k1 k2 hn.2 (recWho_in _ _ _ _)) ?_
  cases g2:(n.S.add (recWho r.Who r.Seq r.Code)).2
  ·try simp -implicitDefEqProofs (maxSteps:=1000000) only [go_sem,g2,e1,NodeV.changed,NodeV.added,NodeV.enc,take_all,take_marks]
   repeat refine ⟨sc,?_⟩
   try exact sf
   try rfl
  ·try simp -implicitDefEqProofs (maxSteps:=1000000) only [go_sem,g2,e1,NodeV.changed,NodeV.added,NodeV.enc,take_all,take_marks]
   repeat refine ⟨sc,?_⟩
   try exact sf
   try rfl
def x_s_l3Any:FnX:=⟨6,[.tmp 2],
  .q [.i 2 0]
 (.q [.m 3 0,.op 4 (.bslice 1 [(.i 0),(.i 1),(.i 2),(.i 3),(.i 4),(.i 5),(.i 6),(.i (-1))]),.op 5 (.call 70 [5,1] [(.t 3),(.t 4)]),.m 2 5]
 .ret)⟩
theorem r_s_l3Any {Te:TE} (c_s_l1Int:C_s_l1Int Te):∀ (c:CurV) (hc:c.ok),∃ r0,(∃ (r:Int) (d:CurV),(d.ok)∧r0=(⟨[.one (iT r)],[d.enc]⟩:Res))∧RunFn Te x_s_l3Any [.ptr c.enc] r0:=by
 intro c hc
 refine some_of (Nat.le_of_ble_eq_true rfl) (by rfl) ?_
 simp -implicitDefEqProofs (maxSteps:=1000000) only [x_s_l3Any,go_sem]
 repeat refine ⟨sc,?_⟩
 try exact sf
 obtain ⟨r,d,⟨hr,hd⟩,ht⟩:=c_s_l1Int c [0,1,2,3,4,5,6,-1] hc (by decide)
 refine C0 (ht) ?_
 exact ⟨r,d,hd,rfl⟩
def x_s_l2Bent:FnX:=⟨23,[.tmp 2],
  .q [.op 2 (.mv (.k (.one (.pv (.string ⟨#[]⟩)))))]
 (.q [.m 4 0,.op 5 (.call 199 [5,0] [(.t 4),(.i 6)]),.m 3 5]
 (.seq (.q [.m 6 0,.op 7 (.call 96 [5,0] [(.t 6),(.i 5)])]
 (.block 0 (.q [.B 9 .eql 7 0,.m 8 9]
 (.cond 8 (.q [.m 10 3,.m 11 0,.op 12 (.bslice 1 [(.k (.one (.pv (.string ⟨#[255]⟩)))),(.k (.one (.pv (.string ⟨#[192,128]⟩)))),(.k (.one (.pv (.string ⟨#[224,128,128]⟩)))),(.k (.one (.pv (.string ⟨#[237,160,128]⟩)))),(.k (.one (.pv (.string ⟨#[244,144,128,128]⟩)))),(.k (.one (.pv (.string ⟨#[194]⟩)))),(.k (.one (.pv (.string ⟨#[226,130]⟩)))),(.k (.one (.pv (.string ⟨#[128]⟩))))]),.op 13 (.call 114 [5,1] [(.t 11),(.t 12)]),.b 14 .add 10 13,.m 2 14]
 .ret) (.q [.B 16 .eql 7 1,.m 15 16]
 (.c 15 (.q [.m 17 0,.m 18 3,.op 19 (.conv .s2b (.t 18)),.op 20 (.call 183 [5,1] [(.t 17),(.t 19)]),.op 21 (.conv .b2s (.t 20)),.m 2 21]
 .ret)))))))
 (.q [.m 22 3,.m 2 22]
 .ret)))⟩
theorem r_s_l2Bent {Te:TE} (c_s_l2Text:C_s_l2Text Te) (c_s_l1Below:C_s_l1Below Te) (c_s_l1Str:C_s_l1Str Te) (c_s_l1Bend:C_s_l1Bend Te):∀ (c:CurV) (hc:c.ok),∃ r0,(∃ (r:ByteArray) (d:CurV),(r.size≤60∧d.ok)∧r0=(⟨[.one (sT r)],[d.enc]⟩:Res))∧RunFn Te x_s_l2Bent [.ptr c.enc] r0:=by
 intro c hc
 refine some_of (Nat.le_of_ble_eq_true rfl) (by rfl) ?_
 simp -implicitDefEqProofs (maxSteps:=1000000) only [x_s_l2Bent,go_sem]
 repeat refine ⟨sc,?_⟩
 try exact sf
 obtain ⟨s,d,⟨hs,hd⟩,ht⟩:=c_s_l2Text c 6 hc (by decide)
 replace hs:s.size≤24:=hs
 refine C0 (ht) ?_
 obtain ⟨k,d,⟨_,hd⟩,ht⟩:=c_s_l1Below d 5 hd
 by_cases q0:k=0
 ·subst q0
  obtain ⟨r,d,⟨hr,hd⟩,ht1⟩:=c_s_l1Str d [⟨#[255]⟩,⟨#[192,128]⟩,⟨#[224,128,128]⟩,⟨#[237,160,128]⟩,⟨#[244,144,128,128]⟩,⟨#[194]⟩,⟨#[226,130]⟩,⟨#[128]⟩] hd (by decide)
  have h4:=str_small 4 hr (by decide)
  have hz:decide (s.size + r.size≤4294967296)=true:=decide_eq_true (by omega)
  refine C0 (ht) ?_
  refine C1 (ht1) hz ?_
  exact ⟨s++r,d,⟨by rw [ByteArray.size_append]; omega,hd⟩,rfl⟩
 by_cases q1:k=1
 ·subst q1
  obtain ⟨r,d,⟨hr,hd⟩,ht1⟩:=c_s_l1Bend d s.data.toList hd (by rw [Array.length_toList]; show s.size≤_; omega)
  replace hr:r.length≤s.size:=by rw [Array.length_toList] at hr; exact hr
  refine C0 (ht) ?_
  refine C0 (ht1) ?_
  refine ⟨areBytes_uL r,⟨(bytesOf (r.map uR)).toArray⟩,d,⟨?_,hd⟩,rfl⟩
  show (bytesOf (r.map uR)).length≤_
  rw [bytesOf_uL]
  omega
 have e:∀ j:Int,k≠j→(k==j)=false:=fun j h=>by simpa using h
 refine .of (ht) ?_
 try simp -implicitDefEqProofs (maxSteps:=1000000) only [go_sem,e 0 q0,e 1 q1]
 repeat refine ⟨sc,?_⟩
 try exact sf
 exact ⟨s,d,⟨by omega,hd⟩,rfl⟩
def x_s_l8Draw:FnX:=⟨17,[.cell 2 (some 2)],
  .q [.op 2 (.alloc [.i 0,.nils 1])]
 (.q [.m 6 0,.op 7 (.call 96 [5,0] [(.t 6),(.i 6)]),.m 3 7]
 (.q [.m 9 3,.m 10 0,.m 11 3,.op 12 (.call 106 [5,0,0] [(.t 10),(.t 11),(.i 6)]),.c 13 200 [9,12],.m 8 13,.e 14 8 0,.e 15 8 1,.op 4 (.alloc [.i 0,.nils 1]),.s 100001 2 4 14,.m 5 15]
 (.q [.L 16 2 4,.s 100002 2 2 16]
 .ret)))⟩
theorem r_s_l8Draw {Te:TE} (c_s_l1Below:C_s_l1Below Te) (c_s_l5Text:C_s_l5Text Te) (c_s_CellOf:C_s_CellOf Te):∀ (c:CurV) (hc:c.ok),∃ r0,(∃ (x:CellV) (d:CurV),(x.In (2 ^ 20)∧d.ok)∧r0=(⟨[.agg (x.enc true)],[d.enc]⟩:Res))∧RunFn Te x_s_l8Draw [.ptr c.enc] r0:=by
 intro c hc
 refine some_of (Nat.le_of_ble_eq_true rfl) (by rfl) ?_
 simp -implicitDefEqProofs (maxSteps:=1000000) only [x_s_l8Draw,go_sem]
 repeat refine ⟨sc,?_⟩
 try exact sf
 obtain ⟨k,d,⟨_,hd⟩,ht⟩:=c_s_l1Below c 6 hc
 obtain ⟨s,d,⟨hs,hd⟩,ht1⟩:=c_s_l5Text d k 6 hd (by decide)
 replace hs:s.size≤24:=hs
 refine C0 (ht) ?_
 refine C0 (ht1) ?_
 refine C0 (c_s_CellOf k s (by omega)) ?_
 exact ⟨(cellOf k s).1,d,⟨Nat.le_trans (cellOf_in k s) (by decide),hd⟩,rfl⟩
def x_s_l8Any:FnX:=⟨28,[.cell 2 (some 2)],
  .q [.op 2 (.alloc [.i 0,.nils 1])]
 (.q [.m 4 0,.op 5 (.call 372 [5] [(.t 4)]),.op 3 (.alloc [.i 0,.nils 1]),.s 100001 2 3 5]
 (.seq (.q [.m 6 0,.op 7 (.call 96 [5,0] [(.t 6),(.i 6)])]
 (.block 0 (.q [.B 9 .eql 7 0,.m 8 9]
 (.cond 8 (.reg [.m 10 0,.op 11 (.call 118 [5] [(.t 10)]),.f 12 3 0,.s 100002 1 12 11]) (.q [.B 14 .eql 7 1,.m 13 14]
 (.cond 13 (.reg [.m 15 0,.f 16 3 0,.l 17 16,.op 18 (.call 97 [5,0] [(.t 15),(.t 17)]),.f 19 3 1,.s 100003 1 19 18]) (.q [.B 21 .eql 7 2,.m 20 21]
 (.c 20 (.reg [.m 22 0,.op 23 (.call 96 [5,0] [(.t 22),(.i 3)]),.op 24 (.bin .add (.i 19) (.t 23)),.op 25 (.mks 1 1 [.pv (.int .u8 0)] (.t 24)),.f 26 3 1,.s 100004 1 26 25])))))))))
 (.q [.L 27 2 3,.s 100005 2 2 27]
 .ret)))⟩
theorem r_s_l8Any {Te:TE} (c_s_l8Draw:C_s_l8Draw Te) (c_s_l1Below:C_s_l1Below Te) (c_s_l3Any:C_s_l3Any Te) (c_s_l5Bytes:C_s_l5Bytes Te):∀ (c:CurV) (hc:c.ok),∃ r0,(∃ (x:CellV) (d:CurV),(x.In (2 ^ 20)∧d.ok)∧r0=(⟨[.agg (x.enc true)],[d.enc]⟩:Res))∧RunFn Te x_s_l8Any [.ptr c.enc] r0:=by
 intro c hc
 refine some_of (Nat.le_of_ble_eq_true rfl) (by rfl) ?_
 simp -implicitDefEqProofs (maxSteps:=1000000) only [x_s_l8Any,go_sem]
 repeat refine ⟨sc,?_⟩
 try exact sf
 obtain ⟨x,d,⟨hx,hd⟩,ht⟩:=c_s_l8Draw c hc
 refine C0 (ht) ?_
 obtain ⟨k,d,⟨⟨hk0,hk1,_⟩,hd⟩,ht⟩:=c_s_l1Below d 6 hd
 by_cases q0:k=0
 ·subst q0
  obtain ⟨r,d,hd,ht1⟩:=c_s_l3Any d hd
  refine C0 (ht) ?_
  refine C0 (ht1) ?_
  exact ⟨⟨r,x.B⟩,d,⟨hx,hd⟩,rfl⟩
 by_cases q1:k=1
 ·subst q1
  obtain ⟨b,d,⟨hb,hd⟩,ht1⟩:=c_s_l5Bytes d x.Tag hd
  refine C0 (ht) ?_
  refine C0 (ht1) ?_
  exact ⟨⟨x.Tag,b⟩,d,⟨Nat.le_trans hb (by decide),hd⟩,rfl⟩
 by_cases q2:k=2
 ·subst q2
  obtain ⟨u,d,⟨⟨hu0,hu1,_⟩,hd⟩,ht1⟩:=c_s_l1Below d 3 hd
  have hu3:=hu1 (by decide)
  have wu:IntKind.i64.wrap (19 + u)=19 + u:=IntWalk.i64_in _ (by omega)
  refine C0 (ht) ?_
  refine .of (ht1) ?_
  try simp -implicitDefEqProofs (maxSteps:=1000000) only [go_sem,wu,zero_rows,take_zeros]
  repeat refine ⟨sc,?_⟩
  try exact sf
  exact ⟨⟨x.Tag,List.replicate (19 + u).toNat 0⟩,d,⟨by show (List.replicate _ _).length≤_; rw [List.length_replicate]; omega,hd⟩,rfl⟩
 have e:∀ j:Int,k≠j→(k==j)=false:=fun j h=>by simpa using h
 refine .of (ht) ?_
 try simp -implicitDefEqProofs (maxSteps:=1000000) only [go_sem,e 0 q0,e 1 q1,e 2 q2]
 repeat refine ⟨sc,?_⟩
 try exact sf
 exact ⟨x,d,⟨hx,hd⟩,rfl⟩
def x_s_l10Copy:FnX:=⟨58,[.cell 2 (some 4)],
  .q [.v 1 0,.op 2 (.alloc [.nils 1,.nils 2,.i 0,.F])]
 (.q [.f 6 1 2,.l 7 6,.f 8 1 3,.l 9 8,.op 10 (.build [.nils 1,.nils 2,.i 0,.F] [(2,1,(.t 7)),(3,1,(.t 9))]),.op 3 (.alloc [.nils 1,.nils 2,.i 0,.F]),.s 100001 4 3 10]
 (.seq (.q [.i 4 0]
 (.up 3 1 300001 (.up 3 0 300000 (.block 0 (.loop [1,2,3,4] (.seq (.q [.m 11 4,.f 12 1 0,.l 13 12,.n 14 13,.b 15 .lss 11 14]
 (.cond 15 .skip (.exit 0)))
 (.seq (.block 1 (.draw [.f 18 3 0,.l 19 18,.op 20 (.bslice 1 []),.f 21 1 0,.l 22 21,.m 23 4,.x 24 1 22 23,.l 25 24,.op 26 (.app 1 1 (.t 20) (.t 25)),.op 27 (.bslice 1 [(.t 26)]),.op 28 (.app 1 24 (.t 19) (.t 27)),.f 29 3 0,.s 100002 1 29 28] [[],[0],[],[],[3],[],[4,5],[6],[2,7],[8],[1,9,8],[0,1,2,3,4,5,6,7,8,9,10],[11,10,10,0,1,2,3,4,5,6,7,8,9,10]]))
 (.reg [.m 16 4,.B 17 .add 16 1,.m 4 17]))))))))
 (.norm [1,2,3] (.seq (.q [.i 5 0]
 (.block 2 (.loop [1,2,3,5] (.seq (.q [.m 30 5,.f 31 1 1,.l 32 31,.n 33 32,.b 34 .lss 30 33]
 (.cond 34 .skip (.exit 2)))
 (.seq (.block 3 (.draw [.f 37 3 1,.l 38 37,.f 39 1 1,.l 40 39,.m 41 5,.x 42 2 40 41,.f 43 42 0,.l 44 43,.op 45 (.bslice 1 []),.f 46 1 1,.l 47 46,.m 48 5,.x 49 2 47 48,.f 50 49 1,.l 51 50,.op 52 (.app 1 1 (.t 45) (.t 51)),.op 53 (.build [.i 0,.nils 1] [(0,1,(.t 44)),(1,1,(.t 52))]),.op 54 (.bslice 2 [(.t 53)]),.op 55 (.app 2 32 (.t 38) (.t 54)),.f 56 3 1,.s 100003 1 56 55] [[],[0],[],[2],[],[3,4],[5],[6],[],[],[9],[],[10,11],[12],[13],[8,14],[7,15],[16],[1,17,15],[0,1,2,3,4,5,6,7,8,9,10,11,12,13,14,15,16,17,18],[19,18,18,0,1,2,3,4,5,6,7,8,9,10,11,12,13,14,15,16,17,18]]))
 (.reg [.m 35 5,.B 36 .add 35 1,.m 5 36]))))))
 (.norm [2,3] (.q [.L 57 4 3,.s 100004 4 2 57]
 .ret))))))⟩
theorem r_s_l10Copy {Te:TE}:C_s_l10Copy (RF Te x_s_l10Copy):=by
 intro d h
 obtain ⟨⟨hS,hSl⟩,hC,hCl⟩:=h
 refine X0 x_s_l10Copy.eq_1 ?_
 refine loop_of (σ:=Nat×List (List UInt8)) (fun x=>⟨[(1,.bp 1 0),(2,.bp 2 0),(3,.bp 3 0),(4,.one (.pv (.int .i64 x.1)))],[(1,[.ro 1 (d.Secs.map (secR false)),.ro 2 (d.Cache.map (WrV.enc false)),.pv (.int .i64 d.Fuse),.pv (.bool d.Down)]),(2,[.nils 1,.nils 2,.pv (.int .i64 0),.pv (.bool false)]),(3,[.rf 59 0 [] 1 0 x.2.length,.rf 60 0 [] 2 0 0,.pv (.int .i64 d.Fuse),.pv (.bool d.Down)])],[(0,d.enc false),(59,[slT true 1 (secR true) x.2]),(60,[slT true 2 (WrV.enc true) []])]⟩) (fun x=>x.1≤d.Secs.length∧x.2=d.Secs.take x.1) (fun x=>d.Secs.length - x.1) (0,[]) ?_ ⟨Nat.zero_le _,rfl⟩ ?_
 ·simp -implicitDefEqProofs (maxSteps:=1000000) only [go_sem]
  try rfl
 ·rintro ⟨i,l⟩ ⟨hi,he⟩
  simp only at hi he
  have hl:l.length=i:=by rw [he,List.length_take]; omega
  cases q:decide ((i:Int) < (d.Secs.length:Int))
  ·have k0:i=d.Secs.length:=by simp only [decide_eq_false_iff_not] at q; omega
   rw [k0,List.take_length] at he
   subst he
   refine G1 q ?_
   refine loop_of (σ:=Nat×List WrV) (fun x=>⟨[(1,.bp 1 0),(2,.bp 2 0),(3,.bp 3 0),(5,.one (.pv (.int .i64 x.1)))],[(1,[.ro 1 (d.Secs.map (secR false)),.ro 2 (d.Cache.map (WrV.enc false)),.pv (.int .i64 d.Fuse),.pv (.bool d.Down)]),(2,[.nils 1,.nils 2,.pv (.int .i64 0),.pv (.bool false)]),(3,[.rf 59 0 [] 1 0 d.Secs.length,.rf 60 0 [] 2 0 x.2.length,.pv (.int .i64 d.Fuse),.pv (.bool d.Down)])],[(0,d.enc false),(59,[slT true 1 (secR true) d.Secs]),(60,[slT true 2 (WrV.enc true) x.2])]⟩) (fun x=>x.1≤d.Cache.length∧x.2=d.Cache.take x.1) (fun x=>d.Cache.length - x.1) (0,[]) ?_ ⟨Nat.zero_le _,rfl⟩ ?_
   ·simp -implicitDefEqProofs (maxSteps:=1000000) only [go_sem]
    try rfl
   ·rintro ⟨j,m⟩ ⟨hj,hm⟩
    simp only at hj hm
    have hml:m.length=j:=by rw [hm,List.length_take]; omega
    cases q2:decide ((j:Int) < (d.Cache.length:Int))
    ·have k2:j=d.Cache.length:=by simp only [decide_eq_false_iff_not] at q2; omega
     rw [k2,List.take_length] at hm
     subst hm
     exact F1 q2
    ·have k2:j < d.Cache.length:=by simp only [decide_eq_true_eq] at q2; omega
     have hb:d.Cache[j].B.length≤2 ^ 21:=hCl _ (List.getElem_mem k2)
     have ea:=app1W m d.Cache[j]
     refine G3 q2 (List.getElem?_eq_getElem k2) ea ?_
     refine ⟨(j + 1,m++[d.Cache[j]]),?_,⟨k2,by rw [hm,List.take_succ_eq_append_getElem k2]⟩,by simp only; omega⟩
     rw [IntWalk.i64_in _ (by omega)]
     simp only [List.length_append]
     rfl
  ·have k1:i < d.Secs.length:=by simp only [decide_eq_true_eq] at q; omega
   have hb:d.Secs[i].length≤2 ^ 21:=hSl _ (List.getElem_mem k1)
   have ea:=app1S l d.Secs[i]
   refine G3 q (List.getElem?_eq_getElem k1) ea ?_
   refine ⟨(i + 1,l++[d.Secs[i]]),?_,⟨k1,by rw [he,List.take_succ_eq_append_getElem k1]⟩,by simp only; omega⟩
   rw [IntWalk.i64_in _ (by omega)]
   simp only [List.length_append]
   rfl
def x_i_copyTab:FnX:=⟨29,[.cell 2 (some 3)],
  .q [.v 1 0,.op 2 (.alloc [.nils 7,.i 0,.nils 3])]
 (.seq (.draw [.f 6 1 1,.l 7 6,.op 8 (.bslice 3 []),.f 9 1 2,.l 10 9,.op 11 (.app 3 24 (.t 8) (.t 10)),.op 12 (.build [.nils 7,.i 0,.nils 3] [(1,1,(.t 7)),(2,1,(.t 11))]),.op 3 (.alloc [.nils 7,.i 0,.nils 3]),.s 100001 3 3 12] [[],[0],[],[],[3],[2,4],[1,5],[],[7,6,5,0,1,2,3,4,5,6,7]])
 (.seq (.q [.f 13 1 0,.l 14 13,.n 15 14,.i 16 0]
 (.up 3 0 300000 (.block 0 (.loop [2,3,14,15,16] (.q [.b 17 .lss 16 15]
 (.seq (.cond 17 .skip (.exit 0))
 (.seq (.block 1 (.q [.x 18 7 14 16,.L 19 7 18,.op 5 (.alloc [.e,.i 0,.nils 1,.i 0,.nils 1,.i 0,.F]),.s 100002 7 5 19]
 (.draw [.f 20 3 0,.l 21 20,.L 22 7 5,.c 23 252 [22],.op 24 (.bslice 7 [(.t 23)]),.op 25 (.app 7 96 (.t 21) (.t 24)),.f 26 3 0,.s 100003 1 26 25] [[],[0],[],[2],[3],[1,4,3],[0,1,2,3,4,5],[6,5,5,0,1,2,3,4,5]])))
 (.reg [.B 27 .add 16 1,.m 16 27]))))))))
 (.norm [2,3] (.q [.L 28 3 3,.s 100004 3 2 28]
 .ret))))⟩
theorem r_i_copyTab {Te:TE} (c_i_copyRow:C_i_copyRow Te):C_i_copyTab (RF Te x_i_copyTab):=by
 intro t h
 obtain ⟨⟨hR,hRl⟩,hM⟩:=h
 refine X0 x_i_copyTab.eq_1 ?_
 refine loop_of (σ:=Nat×List RowV) (fun x=>⟨[(2,.bp 2 0),(3,.bp 3 0),(14,.one (.ro 7 (t.Rows.map (RowV.enc false)))),(15,.one (.pv (.int .i64 t.Rows.length))),(16,.one (.pv (.int .i64 x.1)))],[(2,[.nils 7,.pv (.int .i64 0),.nils 3]),(3,[.rf 30 0 [] 7 0 x.2.length,.pv (.int .i64 t.Phase),.rf 31 0 [] 3 0 t.Marks.length])],[(0,t.enc false),(30,[slT true 7 (RowV.enc true) x.2]),(31,[slT true 3 MarkV.row t.Marks])]⟩) (fun x=>x.1≤t.Rows.length∧x.2=t.Rows.take x.1) (fun x=>t.Rows.length - x.1) (0,[]) ?_ ⟨Nat.zero_le _,rfl⟩ ?_
 ·simp -implicitDefEqProofs (maxSteps:=1000000) only [go_sem]
  try rfl
 ·rintro ⟨i,l⟩ ⟨hi,he⟩
  simp only at hi he
  have hl:l.length=i:=by rw [he,List.length_take]; omega
  cases q:decide ((i:Int) < (t.Rows.length:Int))
  ·have k0:i=t.Rows.length:=by simp only [decide_eq_false_iff_not] at q; omega
   rw [k0,List.take_length] at he
   subst he
   exact F1 q
  ·have k1:i < t.Rows.length:=by simp only [decide_eq_true_eq] at q; omega
   have ea:=app1Rw l t.Rows[i]
   refine G2 q (List.getElem?_eq_getElem k1) ?_
   refine C1 (c_i_copyRow t.Rows[i] (hRl _ (List.getElem_mem k1))) ea ?_
   refine ⟨(i + 1,l++[t.Rows[i]]),?_,⟨k1,by rw [he,List.take_succ_eq_append_getElem k1]⟩,by simp only; omega⟩
   rw [IntWalk.i64_in _ (by omega)]
   simp only [List.length_append]
   rfl
def x_i_copyCell:FnX:=⟨10,[.cell 2 (some 2)],
  .q [.v 1 0,.op 2 (.alloc [.i 0,.nils 1])]
 (.seq (.draw [.f 3 1 0,.l 4 3,.f 5 1 1,.l 6 5,.op 7 (.bslice 1 [(.t 6)]),.c 8 100 [7],.op 9 (.build [.i 0,.nils 1] [(0,1,(.t 4)),(1,1,(.t 8))]),.s 100001 2 2 9] [[],[0],[],[2],[3],[4],[1,5],[6,5,0,1,2,3,4,5,6]])
 .ret)⟩
theorem r_i_copyCell {Te:TE} (c_i_joined:C_i_joined Te):C_i_copyCell (RF Te x_i_copyCell):=by
 intro c h
 have h0:c.B.length≤2 ^ 21:=h
 refine X0 x_i_copyCell.eq_1 ?_
 refine .of (c_i_joined [c.B] (by rw [flat1]; omega) (by show 1≤2 ^ 31; decide)) ?_
 try simp -implicitDefEqProofs (maxSteps:=1000000) only [go_sem,flat1]
 repeat refine ⟨sc,?_⟩
 try exact sf
def x_s_l8Copy:FnX:=⟨10,[.cell 2 (some 2)],
  .q [.v 1 0,.op 2 (.alloc [.i 0,.nils 1])]
 (.seq (.draw [.f 3 1 0,.l 4 3,.op 5 (.bslice 1 []),.f 6 1 1,.l 7 6,.op 8 (.app 1 1 (.t 5) (.t 7)),.op 9 (.build [.i 0,.nils 1] [(0,1,(.t 4)),(1,1,(.t 8))]),.s 100001 2 2 9] [[],[0],[],[],[3],[2,4],[1,5],[6,5,0,1,2,3,4,5,6]])
 .ret)⟩
theorem r_s_l8Copy {Te:TE}:C_s_l8Copy (RF Te x_s_l8Copy):=by
 intro c h
 refine run0 ?_
 have h0:c.B.length≤2 ^ 21:=h
 simp -implicitDefEqProofs (maxSteps:=1000000) only [x_s_l8Copy,go_sem]
 repeat refine ⟨sc,?_⟩
 try exact sf
def x_i_copyRow:FnX:=⟨12,[.cell 2 (some 7)],
  .q [.v 1 0,.op 2 (.alloc [.e,.i 0,.nils 1,.i 0,.nils 1,.i 0,.F])]
 (.seq (.draw [.f 3 1 1,.L 4 2 3,.c 5 304 [4],.f 6 1 3,.L 7 2 6,.c 8 304 [7],.f 9 1 1,.s 100001 2 9 5,.f 10 1 3,.s 100002 2 10 8] [[],[0],[1],[],[3],[4,2],[0,1,2,3,4],[6,2,5,0,1,2,3,4],[0,1,2,3,4,5,6,7],[8,5,7,0,1,2,3,4,5,6,7]])
 (.q [.L 11 7 1,.s 100003 7 2 11]
 .ret))⟩
theorem r_i_copyRow {Te:TE} (c_i_copyCell:C_i_copyCell Te):C_i_copyRow (RF Te x_i_copyRow):=by
 intro r h
 refine X0 x_i_copyRow.eq_1 ?_
 refine C0 (c_i_copyCell r.Old h.1) ?_
 exact D0 (c_i_copyCell r.New h.2)
def x_s_l9Copy:FnX:=⟨16,[.cell 2 (some 7)],
  .q [.v 1 0,.op 2 (.alloc [.e,.i 0,.nils 1,.i 0,.nils 1,.i 0,.F])]
 (.seq (.draw [.f 3 1 0,.l 4 3,.f 5 1 1,.L 6 2 5,.c 7 338 [6],.f 8 1 3,.L 9 2 8,.c 10 338 [9],.f 11 1 5,.l 12 11,.f 13 1 6,.l 14 13,.op 15 (.build [.e,.i 0,.nils 1,.i 0,.nils 1,.i 0,.F] [(0,1,(.t 4)),(1,2,(.t 7)),(3,2,(.t 10)),(5,1,(.t 12)),(6,1,(.t 14))]),.s 100001 7 2 15] [[],[0],[],[2],[3],[],[5],[6,4],[],[8],[],[10],[1,4,7,9,11],[12,7,0,1,2,3,4,5,6,7,8,9,10,11,12]])
 .ret)⟩
theorem r_s_l9Copy {Te:TE} (c_s_l8Copy:C_s_l8Copy Te):C_s_l9Copy (RF Te x_s_l9Copy):=by
 intro r h
 refine X0 x_s_l9Copy.eq_1 ?_
 refine C0 (c_s_l8Copy r.Old h.1) ?_
 exact D0 (c_s_l8Copy r.New h.2)
def x_i_flag:FnX:=⟨4,[.tmp 2],
  .q [.op 2 (.mv (.k (.one (.pv (.int .u8 0)))))]
 (.seq (.q [.m 3 0]
 (.c 3 (.q [.op 2 (.mv (.k (.one (.pv (.int .u8 1)))))]
 .ret)))
 (.q [.op 2 (.mv (.k (.one (.pv (.int .u8 0)))))]
 .ret))⟩
theorem r_i_flag {Te:TE}:C_i_flag (RF Te x_i_flag):=by
 intro b
 cases b
 ·refine X0 x_i_flag.eq_1 ?_
  try rfl
 ·refine X0 x_i_flag.eq_1 ?_
  try rfl
def x_s_l11Bit:FnX:=⟨4,[.tmp 2],
  .q [.op 2 (.mv (.k (.one (.pv (.int .u8 0)))))]
 (.seq (.q [.m 3 0]
 (.c 3 (.q [.op 2 (.mv (.k (.one (.pv (.int .u8 1)))))]
 .ret)))
 (.q [.op 2 (.mv (.k (.one (.pv (.int .u8 0)))))]
 .ret))⟩
theorem r_s_l11Bit {Te:TE}:C_s_l11Bit (RF Te x_s_l11Bit):=by
 intro b
 cases b
 ·refine X0 x_s_l11Bit.eq_1 ?_
  try rfl
 ·refine X0 x_s_l11Bit.eq_1 ?_
  try rfl
def x_i_sameRow:FnX:=⟨38,[.tmp 4],
  .q [.v 2 0,.v 3 1,.F 4]
 (.q [.f 5 2 0,.l 6 5,.f 7 3 0,.l 8 7,.b 9 .eql 6 8,.m 10 9,.y 10 (.f 11 2 1),.y 10 (.L 12 2 11),.y 10 (.f 13 3 1),.y 10 (.L 14 2 13),.y 10 (.c 15 173 [12,14]),.a 16 10 15,.m 17 16,.y 17 (.f 18 2 3),.y 17 (.L 19 2 18),.y 17 (.f 20 3 3),.y 17 (.L 21 2 20),.y 17 (.c 22 173 [19,21]),.a 23 17 22,.m 24 23,.y 24 (.f 25 2 5),.y 24 (.l 26 25),.y 24 (.f 27 3 5),.y 24 (.l 28 27),.y 24 (.b 29 .eql 26 28),.a 30 24 29,.m 31 30,.y 31 (.f 32 2 6),.y 31 (.l 33 32),.y 31 (.f 34 3 6),.y 31 (.l 35 34),.y 31 (.op 36 (.beq false (.t 33) (.t 35))),.a 37 31 36,.m 4 37]
 .ret)⟩
theorem r_i_sameRow {Te:TE} (c_i_sameCell:C_i_sameCell Te):C_i_sameRow (RF Te x_i_sameRow):=by
 intro a c
 refine run0 ?_
 simp -implicitDefEqProofs (maxSteps:=1000000) only [x_i_sameRow,go_sem,bytes_beq]
 repeat refine ⟨sc,?_⟩
 try exact sf
 cases g1:decide (a.Key=c.Key)
 ·try simp -implicitDefEqProofs (maxSteps:=1000000) only [go_sem,g1,rowSame]
  repeat refine ⟨sc,?_⟩
  try exact sf
 refine G1 g1 ?_
 have t1:=c_i_sameCell a.Old c.Old
 have t2:=c_i_sameCell a.New c.New
 rw [← cellSame] at t1 t2
 refine .of t1 ?_
 cases g2:cellSame a.Old c.Old
 ·try simp -implicitDefEqProofs (maxSteps:=1000000) only [go_sem,g1,g2,rowSame]
  repeat refine ⟨sc,?_⟩
  try exact sf
 refine G0 ?_
 refine .of t2 ?_
 cases g3:cellSame a.New c.New
 ·try simp -implicitDefEqProofs (maxSteps:=1000000) only [go_sem,g1,g2,g3,rowSame]
  repeat refine ⟨sc,?_⟩
  try exact sf
 refine G0 ?_
 cases g4:(a.Has==c.Has)
 ·try simp -implicitDefEqProofs (maxSteps:=1000000) only [go_sem,g1,g2,g3,g4,rowSame]
  repeat refine ⟨sc,?_⟩
  try exact sf
 have e9:∀ c:Bool,(c != false)=c:=fun c=>by cases c <;> rfl
 try simp -implicitDefEqProofs (maxSteps:=1000000) only [go_sem,g1,g2,g3,g4,rowSame,e9]
 repeat refine ⟨sc,?_⟩
 try exact sf
def x_s_l11NoRow:FnX:=⟨26,[.tmp 2],
  .q [.v 1 0,.F 2]
 (.q [.f 3 1 0,.l 4 3,.op 5 (.bin .eql (.t 4) (.k (.one (.pv (.string ⟨#[]⟩))))),.m 6 5,.y 6 (.f 7 1 1),.y 6 (.L 8 2 7),.y 6 (.c 9 339 [8]),.a 10 6 9,.m 11 10,.y 11 (.f 12 1 3),.y 11 (.L 13 2 12),.y 11 (.c 14 339 [13]),.a 15 11 14,.m 16 15,.y 16 (.f 17 1 5),.y 16 (.l 18 17),.y 16 (.B 19 .eql 18 0),.a 20 16 19,.m 21 20,.y 21 (.f 22 1 6),.y 21 (.l 23 22),.y 21 (.N 24 23),.a 25 21 24,.m 2 25]
 .ret)⟩
theorem r_s_l11NoRow {Te:TE} (c_s_l9None:C_s_l9None Te):C_s_l11NoRow (RF Te x_s_l11NoRow):=by
 intro r
 refine run0 ?_
 simp -implicitDefEqProofs (maxSteps:=1000000) only [x_s_l11NoRow,go_sem,bytes_beq]
 repeat refine ⟨sc,?_⟩
 try exact sf
 cases g1:decide (r.Key=⟨#[]⟩)
 ·try simp -implicitDefEqProofs (maxSteps:=1000000) only [go_sem,g1,RowV.no]
  repeat refine ⟨sc,?_⟩
  try exact sf
 refine G1 g1 ?_
 refine C0 (c_s_l9None r.Old) ?_
 cases g2:r.Old.no
 ·try simp -implicitDefEqProofs (maxSteps:=1000000) only [go_sem,g1,g2,RowV.no]
  repeat refine ⟨sc,?_⟩
  try exact sf
 refine G0 ?_
 refine C0 (c_s_l9None r.New) ?_
 cases g3:r.New.no
 ·try simp -implicitDefEqProofs (maxSteps:=1000000) only [go_sem,g1,g2,g3,RowV.no]
  repeat refine ⟨sc,?_⟩
  try exact sf
 refine G0 ?_
 cases g4:(r.Has==0)
 ·try simp -implicitDefEqProofs (maxSteps:=1000000) only [go_sem,g1,g2,g3,g4,RowV.no]
  repeat refine ⟨sc,?_⟩
  try exact sf
 try simp -implicitDefEqProofs (maxSteps:=1000000) only [go_sem,g1,g2,g3,g4,RowV.no]
 repeat refine ⟨sc,?_⟩
 try exact sf
def x_s_l1Int:FnX:=⟨12,[.tmp 4],
  .q [.i 4 0]
 (.q [.m 5 1,.m 6 0,.m 7 1,.n 8 7,.op 9 (.call 96 [5,0] [(.t 6),(.t 8)]),.x 10 1 5 9,.l 11 10,.m 4 11]
 .ret)⟩
theorem r_s_l1Int {Te:TE} (c_s_l1Below:C_s_l1Below Te):∀ (c:CurV) (l:List Int) (hc:c.ok) (hl:0 < l.length∧l.length≤2 ^ 31),∃ r0,(∃ (r:Int) (d:CurV),(r∈l∧d.ok)∧r0=(⟨[.one (iT r)],[d.enc,[slT true 1 iR l]]⟩:Res))∧RunFn Te x_s_l1Int [.ptr c.enc,.one (slT true 1 iR l)] r0:=by
 intro c l hc hl
 refine some_of (Nat.le_of_ble_eq_true rfl) (by rfl) ?_
 simp -implicitDefEqProofs (maxSteps:=1000000) only [x_s_l1Int,go_sem]
 repeat refine ⟨sc,?_⟩
 try exact sf
 obtain ⟨r,d,⟨hr,hd⟩,ht⟩:=c_s_l1Below c l.length hc
 have hr':r.toNat < l.length:=by have:=hr.2.1 (by omega); omega
 refine .of (ht) ?_
 try simp -implicitDefEqProofs (maxSteps:=1000000) only [go_sem,List.getD_eq_getElem?_getD,List.getElem?_eq_getElem hr']
 repeat refine ⟨sc,?_⟩
 try exact sf
 exact ⟨_,d,⟨List.getElem_mem hr',hd⟩,rfl⟩
def x_s_l1Str:FnX:=⟨12,[.tmp 4],
  .q [.op 4 (.mv (.k (.one (.pv (.string ⟨#[]⟩)))))]
 (.q [.m 5 1,.m 6 0,.m 7 1,.n 8 7,.op 9 (.call 96 [5,0] [(.t 6),(.t 8)]),.x 10 1 5 9,.l 11 10,.m 4 11]
 .ret)⟩
theorem r_s_l1Str {Te:TE} (c_s_l1Below:C_s_l1Below Te):∀ (c:CurV) (l:List ByteArray) (hc:c.ok) (hl:0 < l.length∧l.length≤2 ^ 31),∃ r0,(∃ (r:ByteArray) (d:CurV),(r∈l∧d.ok)∧r0=(⟨[.one (sT r)],[d.enc,[slT true 1 sR l]]⟩:Res))∧RunFn Te x_s_l1Str [.ptr c.enc,.one (slT true 1 sR l)] r0:=by
 intro c l hc hl
 refine some_of (Nat.le_of_ble_eq_true rfl) (by rfl) ?_
 simp -implicitDefEqProofs (maxSteps:=1000000) only [x_s_l1Str,go_sem]
 repeat refine ⟨sc,?_⟩
 try exact sf
 obtain ⟨r,d,⟨hr,hd⟩,ht⟩:=c_s_l1Below c l.length hc
 have hr':r.toNat < l.length:=by have:=hr.2.1 (by omega); omega
 refine .of (ht) ?_
 try simp -implicitDefEqProofs (maxSteps:=1000000) only [go_sem,List.getD_eq_getElem?_getD,List.getElem?_eq_getElem hr']
 repeat refine ⟨sc,?_⟩
 try exact sf
 exact ⟨_,d,⟨List.getElem_mem hr',hd⟩,rfl⟩
def x_s_l1Bytes:FnX:=⟨20,[.tmp 4],
  .q [.op 4 (.mv (.k (.one (.nils 1))))]
 (.q [.op 7 (.bslice 1 []),.m 5 7]
 (.seq (.q [.i 6 0]
 (.block 0 (.loop [0,1,5,6] (.seq (.q [.m 8 6,.m 9 1,.b 10 .lss 8 9]
 (.cond 10 .skip (.exit 0)))
 (.seq (.block 1 (.reg [.m 13 5,.m 14 0,.op 15 (.call 181 [5] [(.t 14)]),.op 16 (.conv (.int .u8) (.t 15)),.op 17 (.bslice 1 [(.t 16)]),.op 18 (.app 1 1 (.t 13) (.t 17)),.m 5 18]))
 (.reg [.m 11 6,.B 12 .add 11 1,.m 6 12]))))))
 (.norm [5] (.q [.m 19 5,.m 4 19]
 .ret))))⟩
theorem r_s_l1Bytes {Te:TE} (c_s_l1Byte:C_s_l1Byte Te):∀ (c:CurV) (n:Int) (hc:c.ok) (hn:n≤2 ^ 20),∃ r0,(∃ (l:List UInt8) (d:CurV),((l.length:Int)≤max n 0∧d.ok)∧r0=(⟨[.one (slT true 1 uR l)],[d.enc,[iT n]]⟩:Res))∧RunFn Te x_s_l1Bytes [.ptr c.enc,.one (iT n)] r0:=by
 intro c n hc hn
 refine some_of (Nat.le_of_ble_eq_true rfl) (by rfl) ?_
 simp -implicitDefEqProofs (maxSteps:=1000000) only [x_s_l1Bytes,go_sem]
 repeat refine ⟨sc,?_⟩
 try exact sf
def x_s_l14Draw:FnX:=⟨6,[.tmp 2],
  .q [.i 2 0]
 (.q [.m 3 0,.op 4 (.call 96 [5,0] [(.t 3),(.i 10)]),.B 5 .sub 4 1,.m 2 5]
 .ret)⟩
theorem r_s_l14Draw {Te:TE} (c_s_l1Below:C_s_l1Below Te):∀ (c:CurV) (hc:c.ok),∃ r0,(∃ (r:Int) (d:CurV),((-1≤r∧r≤8)∧d.ok)∧r0=(⟨[.one (iT r)],[d.enc]⟩:Res))∧RunFn Te x_s_l14Draw [.ptr c.enc] r0:=by
 intro c hc
 refine some_of (Nat.le_of_ble_eq_true rfl) (by rfl) ?_
 simp -implicitDefEqProofs (maxSteps:=1000000) only [x_s_l14Draw,go_sem]
 repeat refine ⟨sc,?_⟩
 try exact sf
 obtain ⟨r,d,⟨hr,hd⟩,ht⟩:=c_s_l1Below c 10 hc
 refine C0 (ht) ?_
 have:=hr.2.1 (by decide)
 rw [IntWalk.i64_in _ (by omega)]
 exact ⟨_,d,⟨by omega,hd⟩,rfl⟩
def x_i_CellOk:FnX:=⟨12,[.tmp 2],
  .q [.v 1 0,.F 2]
 (.q [.f 3 1 0,.l 4 3,.c 5 184 [4],.m 6 5,.y 6 (.f 7 1 1),.y 6 (.l 8 7),.y 6 (.n 9 8),.y 6 (.B 10 .leq 9 20),.a 11 6 10,.m 2 11]
 .ret)⟩
theorem r_i_CellOk {Te:TE} (c_i_isSet:C_i_isSet Te):C_i_CellOk (RF Te x_i_CellOk):=by
 intro c
 refine run0 ?_
 simp -implicitDefEqProofs (maxSteps:=1000000) only [x_i_CellOk,go_sem,CellV.ok]
 repeat refine ⟨sc,?_⟩
 try exact sf
 refine C0 (c_i_isSet _) ?_
 cases g:win c.Tag 0 5
 ·exact F1 g
 ·exact F1 g
def x_i_CellText:FnX:=⟨14,[.tmp 2,.tmp 3],
  .q [.v 1 0,.op 2 (.mv (.k (.one (.pv (.string ⟨#[]⟩))))),.F 3]
 (.seq (.q [.L 4 2 1,.c 5 261 [4],.N 6 5]
 (.c 6 (.q [.op 2 (.mv (.k (.one (.pv (.string ⟨#[]⟩))))),.F 3]
 .ret)))
 (.q [.f 7 1 0,.l 8 7,.f 9 1 1,.l 10 9,.c 11 99 [8,10],.e 12 11 0,.e 13 11 1,.m 2 12,.m 3 13]
 .ret))⟩
theorem r_i_CellText {Te:TE} (c_i_CellOk:C_i_CellOk Te) (c_i_Decode:C_i_Decode Te):C_i_CellText (RF Te x_i_CellText):=by
 intro c
 refine X0 x_i_CellText.eq_1 ?_
 refine C0 (c_i_CellOk c) ?_
 cases g:c.ok
 ·have e:c.text=(⟨#[]⟩,false):=by rw [CellV.text,g]; rfl
  exact F1 e
 ·have e:c.text=decode c.Tag c.B:=by rw [CellV.text,g]; rfl
  refine G1 e ?_
  exact D1 (c_i_Decode c.Tag c.B (by have:=CellV.ok_len g; omega)) e
def x_i_SameText:FnX:=⟨28,[.tmp 4],
  .q [.v 2 0,.v 3 1,.F 4]
 (.q [.L 10 2 2,.c 11 177 [10],.m 9 11,.e 12 9 0,.e 13 9 1,.m 5 12,.m 6 13]
 (.q [.L 15 2 3,.c 16 177 [15],.m 14 16,.e 17 14 0,.e 18 14 1,.m 7 17,.m 8 18]
 (.q [.m 19 6,.m 20 19,.y 20 (.m 21 8),.a 22 20 21,.m 23 22,.y 23 (.m 24 5),.y 23 (.m 25 7),.y 23 (.b 26 .eql 24 25),.a 27 23 26,.m 4 27]
 .ret)))⟩
theorem r_i_SameText {Te:TE} (c_i_CellText:C_i_CellText Te):C_i_SameText (RF Te x_i_SameText):=by
 intro a c
 refine run0 ?_
 simp -implicitDefEqProofs (maxSteps:=1000000) only [x_i_SameText,go_sem,sameText]
 repeat refine ⟨sc,?_⟩
 try exact sf
 refine C0 (c_i_CellText a) ?_
 refine C0 (c_i_CellText c) ?_
 cases g1:a.text.2
 ·exact F1 g1
 ·cases g2:c.text.2
  ·exact F2 g1 g2
  ·try simp -implicitDefEqProofs (maxSteps:=1000000) only [go_sem,g1,g2,bytes_beq]
   repeat refine ⟨sc,?_⟩
   try exact sf
def x_s_CellOk:FnX:=⟨12,[.tmp 2],
  .q [.v 1 0,.F 2]
 (.q [.f 3 1 0,.l 4 3,.c 5 187 [4],.m 6 5,.y 6 (.f 7 1 1),.y 6 (.l 8 7),.y 6 (.n 9 8),.y 6 (.B 10 .leq 9 20),.a 11 6 10,.m 2 11]
 .ret)⟩
theorem r_s_CellOk {Te:TE} (c_s_l5Cs:C_s_l5Cs Te):C_s_CellOk (RF Te x_s_CellOk):=by
 intro c
 refine run0 ?_
 simp -implicitDefEqProofs (maxSteps:=1000000) only [x_s_CellOk,go_sem,CellV.ok]
 repeat refine ⟨sc,?_⟩
 try exact sf
 refine C0 (c_s_l5Cs _) ?_
 cases g:win c.Tag 0 5
 ·exact F1 g
 ·exact F1 g
def x_s_CellText:FnX:=⟨14,[.tmp 2,.tmp 3],
  .q [.v 1 0,.op 2 (.mv (.k (.one (.pv (.string ⟨#[]⟩))))),.F 3]
 (.seq (.q [.L 4 2 1,.c 5 286 [4],.N 6 5]
 (.c 6 (.q [.op 2 (.mv (.k (.one (.pv (.string ⟨#[]⟩))))),.F 3]
 .ret)))
 (.q [.f 7 1 0,.l 8 7,.f 9 1 1,.l 10 9,.c 11 102 [8,10],.e 12 11 0,.e 13 11 1,.m 2 12,.m 3 13]
 .ret))⟩
theorem r_s_CellText {Te:TE} (c_s_CellOk:C_s_CellOk Te) (c_s_Decode:C_s_Decode Te):C_s_CellText (RF Te x_s_CellText):=by
 intro c
 refine X0 x_s_CellText.eq_1 ?_
 refine C0 (c_s_CellOk c) ?_
 cases g:c.ok
 ·have e:c.text=(⟨#[]⟩,false):=by rw [CellV.text,g]; rfl
  exact F1 e
 ·have e:c.text=decode c.Tag c.B:=by rw [CellV.text,g]; rfl
  refine G1 e ?_
  exact D1 (c_s_Decode c.Tag c.B (by have:=CellV.ok_len g; omega)) e
def x_s_SameText:FnX:=⟨28,[.tmp 4],
  .q [.v 2 0,.v 3 1,.F 4]
 (.q [.L 10 2 2,.c 11 197 [10],.m 9 11,.e 12 9 0,.e 13 9 1,.m 5 12,.m 6 13]
 (.q [.L 15 2 3,.c 16 197 [15],.m 14 16,.e 17 14 0,.e 18 14 1,.m 7 17,.m 8 18]
 (.q [.m 19 6,.m 20 19,.y 20 (.m 21 8),.a 22 20 21,.m 23 22,.y 23 (.m 24 5),.y 23 (.m 25 7),.y 23 (.b 26 .eql 24 25),.a 27 23 26,.m 4 27]
 .ret)))⟩
theorem r_s_SameText {Te:TE} (c_s_CellText:C_s_CellText Te):C_s_SameText (RF Te x_s_SameText):=by
 intro a c
 refine run0 ?_
 simp -implicitDefEqProofs (maxSteps:=1000000) only [x_s_SameText,go_sem,sameText]
 repeat refine ⟨sc,?_⟩
 try exact sf
 refine C0 (c_s_CellText a) ?_
 refine C0 (c_s_CellText c) ?_
 cases g1:a.text.2
 ·exact F1 g1
 ·cases g2:c.text.2
  ·exact F2 g1 g2
  ·try simp -implicitDefEqProofs (maxSteps:=1000000) only [go_sem,g1,g2,bytes_beq]
   repeat refine ⟨sc,?_⟩
   try exact sf
def x_i_sameCell:FnX:=⟨19,[.tmp 4],
  .q [.v 2 0,.v 3 1,.F 4]
 (.q [.f 5 2 0,.l 6 5,.f 7 3 0,.l 8 7,.b 9 .eql 6 8,.m 10 9,.y 10 (.f 11 2 1),.y 10 (.l 12 11),.y 10 (.op 13 (.conv .b2s (.t 12))),.y 10 (.f 14 3 1),.y 10 (.l 15 14),.y 10 (.op 16 (.conv .b2s (.t 15))),.y 10 (.b 17 .eql 13 16),.a 18 10 17,.m 4 18]
 .ret)⟩
theorem r_i_sameCell {Te:TE}:C_i_sameCell (RF Te x_i_sameCell):=by
 intro a c
 refine run0 ?_
 cases g:(a.Tag==c.Tag)
 ·simp -implicitDefEqProofs (maxSteps:=1000000) only [x_i_sameCell,go_sem,g]
  repeat refine ⟨sc,?_⟩
  try exact sf
 ·have ea:=areBytes_uR a.B
  have ec:=areBytes_uR c.B
  have fa:=bytesOf_uR a.B
  have fc:=bytesOf_uR c.B
  simp -implicitDefEqProofs (maxSteps:=1000000) only [x_i_sameCell,go_sem,g,ea,ec,fa,fc,bytes_beq,bytes_lists]
  repeat refine ⟨sc,?_⟩
  try exact sf
def x_s_l9None:FnX:=⟨12,[.tmp 2],
  .q [.v 1 0,.F 2]
 (.q [.f 3 1 0,.l 4 3,.B 5 .eql 4 0,.m 6 5,.y 6 (.f 7 1 1),.y 6 (.l 8 7),.y 6 (.n 9 8),.y 6 (.B 10 .eql 9 0),.a 11 6 10,.m 2 11]
 .ret)⟩
theorem r_s_l9None {Te:TE}:C_s_l9None (RF Te x_s_l9None):=by
 intro c
 refine run0 ?_
 cases g:(c.Tag==0)
 ·simp -implicitDefEqProofs (maxSteps:=1000000) only [x_s_l9None,go_sem,CellV.no,g]
  repeat refine ⟨sc,?_⟩
  try exact sf
 ·simp -implicitDefEqProofs (maxSteps:=1000000) only [x_s_l9None,go_sem,CellV.no,g,none_len]
  repeat refine ⟨sc,?_⟩
  try exact sf
def x_i_NameOk:FnX:=⟨27,[.tmp 2],
  .q [.F 2]
 (.seq (.q [.i 3 0]
 (.block 0 (.loop [0,3] (.seq (.q [.m 4 3,.m 5 0,.op 6 (.slen (.t 5)),.b 7 .lss 4 6]
 (.cond 7 .skip (.exit 0)))
 (.seq (.block 1 (.q [.m 10 0,.m 11 3,.op 12 (.sidx (.t 10) (.t 11)),.op 13 (.conv (.int .i64) (.t 12)),.op 14 (.call 90 [0,0,0] [(.t 13),(.i 97),(.i 122)]),.N 15 14,.m 16 15,.y 16 (.m 17 0),.y 16 (.m 18 3),.y 16 (.op 19 (.sidx (.t 17) (.t 18))),.y 16 (.op 20 (.conv (.int .i64) (.t 19))),.y 16 (.op 21 (.call 90 [0,0,0] [(.t 20),(.i 48),(.i 57)])),.y 16 (.N 22 21),.a 23 16 22]
 (.c 23 (.q [.F 2]
 .ret))))
 (.reg [.m 8 3,.B 9 .add 8 1,.m 3 9]))))))
 (.norm [0] (.q [.m 24 0,.op 25 (.slen (.t 24)),.op 26 (.call 90 [0,0,0] [(.t 25),(.i 1),(.i 6)]),.m 2 26]
 .ret)))⟩
theorem r_i_NameOk {Te:TE} (c_i_within:C_i_within Te):C_i_NameOk (RF Te x_i_NameOk):=by
 intro s h
 refine run0 ?_
 have hsz:s.data.toList.length=s.size:=by rw [Array.length_toList]; rfl
 simp -implicitDefEqProofs (maxSteps:=1000000) only [x_i_NameOk,go_sem,nameOk]
 repeat refine ⟨sc,?_⟩
 try exact sf
 refine loop_of (σ:=Nat) (fun i=>⟨[(0,.one (.pv (.string s))),(3,.one (.pv (.int .i64 i)))],[],[(0,[sT s])]⟩) (fun i=>i≤s.size∧(s.data.toList.take i).all nameCh=true) (fun i=>s.size - i) 0 ?_ ⟨Nat.zero_le _,rfl⟩ ?_
 ·simp -implicitDefEqProofs (maxSteps:=1000000) only [go_sem]; rfl
 ·rintro i ⟨hi,hp⟩
  cases q:decide ((i:Int) < (s.size:Int))
  ·have e:=all_end (p:=nameCh) (show s.data.toList.length≤i by simp only [decide_eq_false_iff_not] at q; omega) hp
   refine G1 q ?_
   exact D1 (c_i_within _ _ _) e
  ·have hi':i < s.size:=by simp only [decide_eq_true_eq] at q; omega
   have hi2:i < s.data.toList.length:=by omega
   have q1:decide (i < s.size)=true:=decide_eq_true hi'
   have eg:s.data.toList.getD i 0=s.data.toList[i]:=by rw [List.getD_eq_getElem?_getD,List.getElem?_eq_getElem hi2]; rfl
   have hb:=s.data.toList[i].toNat_lt
   have w1:IntKind.i64.wrap ((s.data.toList[i].toNat:Nat):Int)=(s.data.toList[i].toNat:Nat):=IntWalk.i64_in _ (by omega)
   refine G4 q q1 eg w1 ?_
   refine C0 (c_i_within _ _ _) ?_
   cases g1:win ((s.data.toList[i].toNat:Nat):Int) 97 122
   ·refine G3 q1 eg w1 ?_
    refine C0 (c_i_within _ _ _) ?_
    cases g2:win ((s.data.toList[i].toNat:Nat):Int) 48 57
    ·have e:=all_not (p:=nameCh) hi2 (by simp only [nameCh,g1,g2,Bool.or_false])
     exact F1 e
    ·refine G0 ?_
     refine ⟨i + 1,by rw [IntWalk.i64_in _ (by omega)]; rfl,⟨hi',all_step (p:=nameCh) hi2 hp (by simp only [nameCh,g1,g2,Bool.or_true])⟩,by omega⟩
   ·refine G0 ?_
    refine ⟨i + 1,by rw [IntWalk.i64_in _ (by omega)]; rfl,⟨hi',all_step (p:=nameCh) hi2 hp (by simp only [nameCh,g1,Bool.true_or])⟩,by omega⟩
def x_i_PairSign:FnX:=⟨26,[.tmp 4,.tmp 5],
  .q [.i 4 0,.F 5]
 (.seq (.block 0 (.q [.m 7 0,.B 8 .eql 7 164,.m 9 8,.y 9 (.m 10 1),.y 9 (.op 11 (.call 90 [0,0,0] [(.t 10),(.i 161),(.i 243)])),.a 12 9 11,.m 6 12]
 (.cond 6 (.q [.m 13 1,.op 14 (.bin .add (.i 12353) (.t 13)),.B 15 .sub 14 161,.m 4 15,.T 5]
 .ret) (.q [.m 17 0,.B 18 .eql 17 165,.m 19 18,.y 19 (.m 20 1),.y 19 (.op 21 (.call 90 [0,0,0] [(.t 20),(.i 161),(.i 246)])),.a 22 19 21,.m 16 22]
 (.c 16 (.q [.m 23 1,.op 24 (.bin .add (.i 12449) (.t 23)),.B 25 .sub 24 161,.m 4 25,.T 5]
 .ret))))))
 (.q [.i 4 0,.F 5]
 .ret))⟩
theorem r_i_PairSign {Te:TE} (c_i_within:C_i_within Te):C_i_PairSign (RF Te x_i_PairSign):=by
 intro hi lo h
 refine run0 ?_
 have w1:IntKind.i64.wrap (12353 + lo)=12353 + lo:=IntWalk.i64_in _ (by omega)
 have w2:IntKind.i64.wrap (12353 + lo - 161)=12353 + lo - 161:=IntWalk.i64_in _ (by omega)
 have w3:IntKind.i64.wrap (12449 + lo)=12449 + lo:=IntWalk.i64_in _ (by omega)
 have w4:IntKind.i64.wrap (12449 + lo - 161)=12449 + lo - 161:=IntWalk.i64_in _ (by omega)
 have no:∀ a b c d:Bool,(a&&b)=false→(c&&d)=false→True:=fun _ _ _ _ _ _=>trivial
 cases g1:(hi==164)
 ·cases g3:(hi==165)
  ·have e:pairSign hi lo=(0,false):=by rw [pairSign,g1,g3]; rfl
   simp -implicitDefEqProofs (maxSteps:=1000000) only [x_i_PairSign,go_sem,g1,g3,e]
   repeat refine ⟨sc,?_⟩
   try exact sf
  ·simp -implicitDefEqProofs (maxSteps:=1000000) only [x_i_PairSign,go_sem,g1,g3]
   repeat refine ⟨sc,?_⟩
   try exact sf
   refine C0 (c_i_within _ _ _) ?_
   cases g4:win lo 161 246
   ·have e:pairSign hi lo=(0,false):=by rw [pairSign,g1,g3,g4]; rfl
    exact F1 e
   ·have e:pairSign hi lo=(12449 + lo - 161,true):=by rw [pairSign,g1,g3,g4]; rfl
    exact F3 e w3 w4
 ·have g3:(hi==165)=false:=by have:=eq_of_beq g1; subst this; rfl
  simp -implicitDefEqProofs (maxSteps:=1000000) only [x_i_PairSign,go_sem,g1]
  repeat refine ⟨sc,?_⟩
  try exact sf
  refine C0 (c_i_within _ _ _) ?_
  cases g4:win lo 161 243
  ·have e:pairSign hi lo=(0,false):=by rw [pairSign,g1,g3,g4]; rfl
   exact F2 g3 e
  ·have e:pairSign hi lo=(12353 + lo - 161,true):=by rw [pairSign,g1,g4]; rfl
   exact F3 e w1 w2
def x_s_PairSign:FnX:=⟨26,[.tmp 4,.tmp 5],
  .q [.i 4 0,.F 5]
 (.seq (.block 0 (.q [.m 7 0,.B 8 .eql 7 164,.m 9 8,.y 9 (.m 10 1),.y 9 (.op 11 (.call 120 [0,0,0] [(.t 10),(.i 161),(.i 243)])),.a 12 9 11,.m 6 12]
 (.cond 6 (.q [.m 13 1,.op 14 (.bin .add (.i 12353) (.t 13)),.B 15 .sub 14 161,.m 4 15,.T 5]
 .ret) (.q [.m 17 0,.B 18 .eql 17 165,.m 19 18,.y 19 (.m 20 1),.y 19 (.op 21 (.call 120 [0,0,0] [(.t 20),(.i 161),(.i 246)])),.a 22 19 21,.m 16 22]
 (.c 16 (.q [.m 23 1,.op 24 (.bin .add (.i 12449) (.t 23)),.B 25 .sub 24 161,.m 4 25,.T 5]
 .ret))))))
 (.q [.i 4 0,.F 5]
 .ret))⟩
theorem r_s_PairSign {Te:TE} (c_s_l1In:C_s_l1In Te):C_s_PairSign (RF Te x_s_PairSign):=by
 intro hi lo h
 refine run0 ?_
 have w1:IntKind.i64.wrap (12353 + lo)=12353 + lo:=IntWalk.i64_in _ (by omega)
 have w2:IntKind.i64.wrap (12353 + lo - 161)=12353 + lo - 161:=IntWalk.i64_in _ (by omega)
 have w3:IntKind.i64.wrap (12449 + lo)=12449 + lo:=IntWalk.i64_in _ (by omega)
 have w4:IntKind.i64.wrap (12449 + lo - 161)=12449 + lo - 161:=IntWalk.i64_in _ (by omega)
 have no:∀ a b c d:Bool,(a&&b)=false→(c&&d)=false→True:=fun _ _ _ _ _ _=>trivial
 cases g1:(hi==164)
 ·cases g3:(hi==165)
  ·have e:pairSign hi lo=(0,false):=by rw [pairSign,g1,g3]; rfl
   simp -implicitDefEqProofs (maxSteps:=1000000) only [x_s_PairSign,go_sem,g1,g3,e]
   repeat refine ⟨sc,?_⟩
   try exact sf
  ·simp -implicitDefEqProofs (maxSteps:=1000000) only [x_s_PairSign,go_sem,g1,g3]
   repeat refine ⟨sc,?_⟩
   try exact sf
   refine C0 (c_s_l1In _ _ _) ?_
   cases g4:win lo 161 246
   ·have e:pairSign hi lo=(0,false):=by rw [pairSign,g1,g3,g4]; rfl
    exact F1 e
   ·have e:pairSign hi lo=(12449 + lo - 161,true):=by rw [pairSign,g1,g3,g4]; rfl
    exact F3 e w3 w4
 ·have g3:(hi==165)=false:=by have:=eq_of_beq g1; subst this; rfl
  simp -implicitDefEqProofs (maxSteps:=1000000) only [x_s_PairSign,go_sem,g1]
  repeat refine ⟨sc,?_⟩
  try exact sf
  refine C0 (c_s_l1In _ _ _) ?_
  cases g4:win lo 161 243
  ·have e:pairSign hi lo=(0,false):=by rw [pairSign,g1,g3,g4]; rfl
   exact F2 g3 e
  ·have e:pairSign hi lo=(12353 + lo - 161,true):=by rw [pairSign,g1,g4]; rfl
   exact F3 e w1 w2
def x_s_HeadOf:FnX:=⟨24,[.tmp 4],
  .q [.op 4 (.mv (.k (.one (.nils 1))))]
 (.seq (.q [.m 6 0,.op 7 (.call 120 [0,0,0] [(.t 6),(.i 1),(.i 60000)]),.N 8 7,.m 9 8,.z 9 (.m 10 1),.z 9 (.op 11 (.call 120 [0,0,0] [(.t 10),(.i 0),(.i 30)])),.z 9 (.N 12 11),.r 13 9 12]
 (.c 13 (.q [.op 14 (.bslice 1 []),.m 4 14]
 .ret)))
 (.q [.op 15 (.bslice 1 []),.m 16 0,.c 17 282 [15,16],.m 18 1,.c 19 282 [17,18],.m 5 19]
 (.q [.m 20 5,.m 21 5,.c 22 285 [21],.c 23 282 [20,22],.m 4 23]
 .ret)))⟩
theorem r_s_HeadOf {Te:TE} (c_s_l1In:C_s_l1In Te) (c_s_PutW:C_s_PutW Te) (c_s_Sum:C_s_Sum Te):C_s_HeadOf (RF Te x_s_HeadOf):=by
 intro gen n
 refine X0 x_s_HeadOf.eq_1 ?_
 refine C0 (c_s_l1In _ _ _) ?_
 cases g1:win gen 1 60000
 ·have e:headOf gen n=[]:=by rw [headOf,headGood,g1]; rfl
  exact F1 e
 refine G0 ?_
 refine C0 (c_s_l1In _ _ _) ?_
 cases g2:win n 0 30
 ·have e:headOf gen n=[]:=by rw [headOf,headGood,g1,g2]; rfl
  exact F1 e
 refine G0 ?_
 have e:headOf gen n=putW (putW (putW [] gen) n) (sum (putW (putW [] gen) n):Nat):=by rw [headOf,headGood,g1,g2]; rfl
 have l1:(putW (putW [] gen) n).length=4:=by rw [putW_len,putW_len]; rfl
 have t1:=c_s_PutW [] gen (by show 0≤2 ^ 30; decide)
 refine C0 (t1) ?_
 refine C0 (c_s_PutW (putW [] gen) n (by rw [putW_len]; show 0 + 2≤2 ^ 30; decide)) ?_
 refine C0 (c_s_Sum (putW (putW [] gen) n) (by omega)) ?_
 refine .of (c_s_PutW (putW (putW [] gen) n) _ (by omega)) ?_
 try simp -implicitDefEqProofs (maxSteps:=1000000) only [go_sem,e]
 repeat refine ⟨sc,?_⟩
 try exact sf
def x_s_NodeLoad:FnX:=⟨60,[.cell 6 (some 10),.tmp 7],
  .q [.v 3 0,.op 6 (.alloc [.nils 1,.nils 2,.i 0,.F,.nils 7,.i 0,.nils 3,.i 0,.i 0,.i 0]),.i 7 0]
 (.q [.L 12 10 3,.c 13 65 [12],.op 8 (.alloc [.nils 1,.nils 2,.i 0,.F,.nils 7,.i 0,.nils 3,.i 0,.i 0,.i 0]),.s 100001 10 8 13]
 (.seq (.block 0 (.q [.L 15 10 3,.c 16 64 [15],.N 17 16,.m 18 17,.z 18 (.m 19 1),.z 18 (.c 20 101 [19]),.z 18 (.N 21 20),.r 22 18 21,.m 23 22,.z 23 (.m 24 2),.z 23 (.n 25 24),.z 23 (.B 26 .gtr 25 20),.r 27 23 26,.m 14 27]
 (.cond 14 (.q [.L 28 10 8,.s 100002 10 6 28,.i 7 1]
 .ret) (.q [.f 30 3 0,.f 31 30 4,.f 32 31 1,.l 33 32,.B 34 .neq 33 0,.m 29 34]
 (.c 29 (.q [.L 35 10 8,.s 100003 10 6 35,.i 7 6]
 .ret))))))
 (.q [.f 37 3 9,.l 38 37,.m 39 2,.c 40 102 [38,39],.m 36 40,.e 41 36 0,.e 42 36 1,.m 9 41,.m 10 42]
 (.seq (.draw [.m 43 1,.f 44 3 9,.l 45 44,.op 46 (.bslice 1 []),.m 47 2,.op 48 (.app 1 1 (.t 46) (.t 47)),.op 49 (.build [.i 0,.nils 1] [(0,1,(.t 45)),(1,1,(.t 48))]),.m 50 10,.N 51 50,.op 52 (.build [.e,.i 0,.nils 1,.i 0,.nils 1,.i 0,.F] [(0,1,(.t 43)),(1,2,(.t 49)),(5,1,(.i 1)),(6,1,(.t 51))]),.op 11 (.alloc [.e,.i 0,.nils 1,.i 0,.nils 1,.i 0,.F]),.s 100004 7 11 52] [[],[],[1],[],[],[3,4],[2,5],[],[7],[0,6,8],[],[10,9,5,0,1,2,3,4,5,6,7,8,9,10]])
 (.seq (.q [.f 53 8 0,.L 54 7 11,.op 55 (.build [.i 0,.e,.i 0,.nils 1,.i 0,.nils 1,.i 0,.F,.e,.i 0,.i 0,.i 0,.i 0] [(0,1,(.i 1)),(1,7,(.t 54))]),.op 56 (.call 103 [11,0] [(.t 53),(.t 55)]),.N 57 56]
 (.c 57 (.q [.L 58 10 8,.s 100005 10 6 58,.i 7 5]
 .ret)))
 (.q [.L 59 10 8,.s 100006 10 6 59,.i 7 0]
 .ret))))))⟩
theorem r_s_NodeLoad {Te:TE} (c_s_l15Copy:C_s_l15Copy Te) (c_s_l15Up:C_s_l15Up Te) (c_s_NameOk:C_s_NameOk Te) (c_s_Decode:C_s_Decode Te) (c_s_l13Add:C_s_l13Add Te):C_s_NodeLoad (RF Te x_s_NodeLoad):=by
 intro n key b hn hk hb
 have hL:=hn.len (by decide)
 refine X0 x_s_NodeLoad.eq_1 ?_
 refine C0 (c_s_l15Copy n hL) ?_
 refine C0 (c_s_l15Up n (hn.mono (by decide))) ?_
 cases g1:n.up
 ·have e:n.load key b=(n,1):=by rw [NodeV.load,g1]; rfl
  exact F1 e
 obtain ⟨k1,k2,_⟩:=up_ok g1
 refine G0 ?_
 refine C0 (c_s_NameOk key (by omega)) ?_
 cases g2:nameOk key
 ·have e:n.load key b=(n,1):=by rw [NodeV.load,g1,g2]; rfl
  exact F1 e
 cases g3:decide ((b.length:Int)≤20)
 ·have e:n.load key b=(n,1):=by rw [NodeV.load,g1,g2,g3]; rfl
  try simp -implicitDefEqProofs (maxSteps:=1000000) only [go_sem,gt20,g3,e,take_all,take_marks]
  repeat refine ⟨sc,?_⟩
  try exact sf
  try rfl
 cases g4:(n.S.T.Phase==0)
 ·have e:n.load key b=(n,6):=by rw [NodeV.load,g1,g2,g3,g4]; rfl
  have g5:(n.S.T.Phase != 0)=true:=by rw [bne_not,g4]; rfl
  try simp -implicitDefEqProofs (maxSteps:=1000000) only [go_sem,gt20,g3,g4,g5,e,take_all,take_marks]
  repeat refine ⟨sc,?_⟩
  try exact sf
  try rfl
 have g5:(n.S.T.Phase != 0)=false:=by rw [bne_not,g4]; rfl
 have e:n.load key b=(n.added (loadRec n key b),bif (n.S.add (loadRec n key b)).2 then 0 else 5):=by rw [NodeV.load,g1,g2,g3,g4]; rfl
 have t2:=c_s_l13Add n.S (loadRec n key b) k1 k2 hn.2 (loadRec_in n hk hb)
 cases g6:(decode n.Cs b).2
 all_goals
  simp only [loadRec,g6,Bool.not_false,Bool.not_true] at t2 e
  try simp -implicitDefEqProofs (maxSteps:=1000000) only [go_sem,gt20,g3,g4,g5]
  repeat refine ⟨sc,?_⟩
  try exact sf
  refine .of (c_s_Decode n.Cs b hb) ?_
  try simp -implicitDefEqProofs (maxSteps:=1000000) only [go_sem,take_rows]
  repeat refine ⟨sc,?_⟩
  try exact sf
  rw [g6]
  try simp -implicitDefEqProofs (maxSteps:=1000000) only [go_sem,g6,take_rows]
  repeat refine ⟨sc,?_⟩
  try exact sf
  refine .of (t2) ?_
  try simp -implicitDefEqProofs (maxSteps:=1000000) only [go_sem,take_all,take_marks]
  repeat refine ⟨sc,?_⟩
  try exact sf
  cases g7:(n.S.add (RecV.mk 1 ⟨key,⟨n.Cs,b⟩,⟨0,[]⟩,1,!(decode n.Cs b).2⟩ ⟨#[]⟩ 0 0 0 0)).2
  all_goals
   rw [g6] at g7
   simp only [Bool.not_false,Bool.not_true] at g7
   try simp -implicitDefEqProofs (maxSteps:=1000000) only [go_sem,g7,e,NodeV.added,NodeV.enc,take_all,take_marks]
   repeat refine ⟨sc,?_⟩
   try exact sf
   try rfl
end Go.X

