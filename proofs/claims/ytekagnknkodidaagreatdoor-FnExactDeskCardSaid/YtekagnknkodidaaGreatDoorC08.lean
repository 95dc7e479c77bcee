/- Texts: CVf_2 CVr CT_2 CVp CVzf CEb_6 CVd CVz_2 CEa_2 CA CUe. -/
import Derived.Test.YtekagnknkodidaaGreatDoorC04
set_option linter.unusedVariables false
set_option linter.unusedSimpArgs false
namespace Go.X
set_option maxRecDepth 100000
set_option maxHeartbeats 8000000
def x_i_TabOk:FnX:=⟨85,[.tmp 2],
  .q [.v 1 0,.F 2]
 (.seq (.q [.f 7 1 0,.l 8 7,.n 9 8,.i 10 0]
 (.block 0 (.loop [1,8,9,10] (.q [.b 11 .lss 10 9]
 (.seq (.cond 11 .skip (.exit 0))
 (.seq (.block 1 (.q [.m 12 10,.x 13 7 8 10,.L 14 7 13,.op 4 (.alloc [.e,.i 0,.nils 1,.i 0,.nils 1,.i 0,.F]),.m 3 12,.s 100001 7 4 14]
 (.seq (.draw [.L 15 7 4,.c 16 165 [15],.N 17 16,.m 18 17,.z 18 (.m 19 3),.z 18 (.B 20 .gtr 19 0),.z 18 (.m 21 20),.y 21 (.f 22 1 0),.y 21 (.l 23 22),.y 21 (.m 24 3),.y 21 (.B 25 .sub 24 1),.y 21 (.x 26 7 23 25),.y 21 (.f 27 26 0),.y 21 (.l 28 27),.y 21 (.f 29 4 0),.y 21 (.l 30 29),.y 21 (.b 31 .geq 28 30),.z 18 (.a 32 21 31),.r 33 18 32] [[],[0],[1],[2,1],[3],[4,3],[5,3,3],[6],[7,6],[6],[9,6],[8,10,6],[11,6],[12,6],[6],[14,6],[13,15,6],[6,16,3],[3,17]])
 (.c 33 (.q [.F 2]
 .ret)))))
 (.reg [.B 34 .add 10 1,.m 10 34])))))))
 (.norm [1] (.seq (.q [.f 35 1 2,.l 36 35,.n 37 36,.i 38 0]
 (.block 2 (.loop [1,36,37,38] (.q [.b 39 .lss 38 37]
 (.seq (.cond 39 .skip (.exit 2))
 (.seq (.block 3 (.q [.m 40 38,.x 41 3 36 38,.L 42 3 41,.op 6 (.alloc [.i 0,.i 0,.i 0]),.m 5 40,.s 100002 3 6 42]
 (.seq (.draw [.f 43 6 0,.l 44 43,.op 45 (.call 57 [0,0,0] [(.t 44),(.i 1),(.i 9)]),.N 46 45,.m 47 46,.z 47 (.f 48 6 1),.z 47 (.l 49 48),.z 47 (.c 50 100 [49]),.z 47 (.N 51 50),.r 52 47 51,.m 53 52,.z 53 (.f 54 6 2),.z 53 (.l 55 54),.z 53 (.op 56 (.call 57 [0,0,0] [(.t 55),(.i 0),(.i 6)])),.z 53 (.N 57 56),.r 58 53 57,.m 59 58,.z 59 (.m 60 5),.z 59 (.B 61 .gtr 60 0),.z 59 (.m 62 61),.y 62 (.f 63 1 2),.y 62 (.l 64 63),.y 62 (.m 65 5),.y 62 (.B 66 .sub 65 1),.y 62 (.x 67 3 64 66),.y 62 (.f 68 67 0),.y 62 (.l 69 68),.y 62 (.f 70 6 0),.y 62 (.l 71 70),.y 62 (.b 72 .geq 69 71),.z 59 (.a 73 62 72),.r 74 59 73] [[],[0],[1],[2],[3,2],[4],[5,4],[6,4,4],[7,4],[4,8],[9,7],[10],[11,10],[12,10,10],[13,10],[10,14],[15,13],[16],[17,16],[18,16,16],[19],[20,19],[19],[22,19],[21,23,19],[24,19],[25,19],[19],[27,19],[26,28,19],[19,29,16],[16,30]])
 (.c 74 (.q [.F 2]
 .ret)))))
 (.reg [.B 75 .add 38 1,.m 38 75])))))))
 (.norm [1] (.q [.f 76 1 0,.l 77 76,.n 78 77,.B 79 .leq 78 8,.m 80 79,.y 80 (.f 81 1 1),.y 80 (.l 82 81),.y 80 (.op 83 (.call 57 [0,0,0] [(.t 82),(.i 0),(.i 7)])),.a 84 80 83,.m 2 84]
 .ret)))))⟩
theorem r_i_TabOk {Te:TE} (c_i_RowOk:C_i_RowOk Te) (c_i_within:C_i_within Te) (c_i_isWord:C_i_isWord Te):C_i_TabOk (RF Te x_i_TabOk):=by
 intro t h
 obtain ⟨⟨hl,hR⟩,hM⟩:=h
 refine X0 x_i_TabOk.eq_1 ?_
 refine loop_of (σ:=Nat) (fun i=>⟨[(1,.bp 1 0),(8,.one (.ro 7 (t.Rows.map (RowV.enc false)))),(9,.one (.pv (.int .i64 t.Rows.length))),(10,.one (.pv (.int .i64 i)))],[(1,[.ro 7 (t.Rows.map (RowV.enc false)),.pv (.int .i64 t.Phase),.ro 3 (t.Marks.map MarkV.row)])],[(0,t.enc false)]⟩) (fun i=>i≤t.Rows.length∧∀ j,j < i→rowGood t.Rows j=true) (fun i=>t.Rows.length - i) 0 ?_ ⟨Nat.zero_le _,fun j hj=>absurd hj (Nat.not_lt_zero _)⟩ ?_
 ·simp -implicitDefEqProofs (maxSteps:=1000000) only [go_sem]
  try rfl
 ·rintro i ⟨hi,hp⟩
  cases q:decide ((i:Int) < (t.Rows.length:Int))
  ·have eR:=rng_end (f:=rowGood t.Rows) (show t.Rows.length≤i by simp only [decide_eq_false_iff_not] at q; omega) hp
   refine G1 q ?_
   refine loop_of (σ:=Nat) (fun i=>⟨[(1,.bp 1 0),(36,.one (.ro 3 (t.Marks.map MarkV.row))),(37,.one (.pv (.int .i64 t.Marks.length))),(38,.one (.pv (.int .i64 i)))],[(1,[.ro 7 (t.Rows.map (RowV.enc false)),.pv (.int .i64 t.Phase),.ro 3 (t.Marks.map MarkV.row)])],[(0,t.enc false)]⟩) (fun i=>i≤t.Marks.length∧∀ j,j < i→markGood t.Marks j=true) (fun i=>t.Marks.length - i) 0 ?_ ⟨Nat.zero_le _,fun j hj=>absurd hj (Nat.not_lt_zero _)⟩ ?_
   ·simp -implicitDefEqProofs (maxSteps:=1000000) only [go_sem]
    try rfl
   ·rintro i ⟨hi,hp⟩
    cases q:decide ((i:Int) < (t.Marks.length:Int))
    ·have eM:=rng_end (f:=markGood t.Marks) (show t.Marks.length≤i by simp only [decide_eq_false_iff_not] at q; omega) hp
     refine G1 q ?_
     cases gl:decide ((t.Rows.length:Int)≤8)
     ·have e:t.ok=false:=by simp only [TabV.ok,gl,Bool.and_false,Bool.false_and]
      exact F2 gl e
     ·have e:t.ok=win t.Phase 0 7:=by simp only [TabV.ok,eR,eM,gl,Bool.true_and]
      refine G1 gl ?_
      exact D1 (c_i_within _ _ _) e
    ·have k1:i < t.Marks.length:=by simp only [decide_eq_true_eq] at q; omega
     cases i with
     | zero =>
      have z:decide (((0:Nat):Int) > 0)=false:=rfl
      have good0:=markGood_zero k1
      refine G3 q (List.getElem?_eq_getElem k1) z ?_
      refine C0 (c_i_within _ _ _) ?_
      cases a1:win t.Marks[0].Who 1 9
      ·have g:t.Marks[0].ok=false:=by simp only [MarkV.ok,a1,Bool.false_and]
       have e:t.ok=false:=by simp only [TabV.ok,rng_not k1 (good0.trans g),Bool.and_false,Bool.false_and]
       exact F1 e
      refine G0 ?_
      refine C0 (c_i_isWord _) ?_
      cases a2:win t.Marks[0].Seq 0 65535
      ·have g:t.Marks[0].ok=false:=by simp only [MarkV.ok,a2,Bool.and_false,Bool.false_and]
       have e:t.ok=false:=by simp only [TabV.ok,rng_not k1 (good0.trans g),Bool.and_false,Bool.false_and]
       exact F1 e
      refine G0 ?_
      refine C0 (c_i_within _ _ _) ?_
      cases a3:win t.Marks[0].Code 0 6
      ·have g:t.Marks[0].ok=false:=by simp only [MarkV.ok,a3,Bool.and_false]
       have e:t.ok=false:=by simp only [TabV.ok,rng_not k1 (good0.trans g),Bool.and_false,Bool.false_and]
       exact F1 e
      have g:t.Marks[0].ok=true:=by simp only [MarkV.ok,a1,a2,a3,Bool.and_true]
      refine G1 z ?_
      refine ⟨1,by rw [IntWalk.i64_in _ (by omega)]; rfl,⟨k1,rng_step hp (good0.trans g)⟩,by omega⟩
     | succ j =>
      have k0:j < t.Marks.length:=by omega
      have z:decide (((j + 1:Nat):Int) > 0)=true:=decide_eq_true (by omega)
      have ew:IntKind.i64.wrap (((j + 1:Nat):Int) - 1)=(j:Int):=by rw [IntWalk.i64_in _ (by omega)]; omega
      have good1:=markGood_succ k1
      refine G3 q (List.getElem?_eq_getElem k1) z ?_
      refine C0 (c_i_within _ _ _) ?_
      cases a1:win t.Marks[j + 1].Who 1 9
      ·have g:t.Marks[j + 1].ok=false:=by simp only [MarkV.ok,a1,Bool.false_and]
       have gg:markGood t.Marks (j + 1)=false:=by rw [good1,g,Bool.false_and]
       have e:t.ok=false:=by simp only [TabV.ok,rng_not k1 gg,Bool.and_false,Bool.false_and]
       exact F1 e
      refine G0 ?_
      refine C0 (c_i_isWord _) ?_
      cases a2:win t.Marks[j + 1].Seq 0 65535
      ·have g:t.Marks[j + 1].ok=false:=by simp only [MarkV.ok,a2,Bool.and_false,Bool.false_and]
       have gg:markGood t.Marks (j + 1)=false:=by rw [good1,g,Bool.false_and]
       have e:t.ok=false:=by simp only [TabV.ok,rng_not k1 gg,Bool.and_false,Bool.false_and]
       exact F1 e
      refine G0 ?_
      refine C0 (c_i_within _ _ _) ?_
      cases a3:win t.Marks[j + 1].Code 0 6
      ·have g:t.Marks[j + 1].ok=false:=by simp only [MarkV.ok,a3,Bool.and_false]
       have gg:markGood t.Marks (j + 1)=false:=by rw [good1,g,Bool.false_and]
       have e:t.ok=false:=by simp only [TabV.ok,rng_not k1 gg,Bool.and_false,Bool.false_and]
       exact F1 e
      have g:t.Marks[j + 1].ok=true:=by simp only [MarkV.ok,a1,a2,a3,Bool.and_true]
      cases g2:decide (t.Marks[j].Who≥t.Marks[j + 1].Who)
      ·have gg:markGood t.Marks (j + 1)=true:=by rw [good1,g,g2]; rfl
       try simp -implicitDefEqProofs (maxSteps:=1000000) only [go_sem,z,ew,List.getElem?_eq_getElem k0,List.getElem?_eq_getElem k1,g2]
       repeat refine ⟨sc,?_⟩
       try exact sf
       refine ⟨j + 2,by rw [IntWalk.i64_in _ (by omega)]; rfl,⟨k1,rng_step hp gg⟩,by omega⟩
      ·have gg:markGood t.Marks (j + 1)=false:=by rw [good1,g2]; simp only [Bool.not_true,Bool.and_false]
       have e:t.ok=false:=by simp only [TabV.ok,rng_not k1 gg,Bool.and_false,Bool.false_and]
       try simp -implicitDefEqProofs (maxSteps:=1000000) only [go_sem,z,ew,List.getElem?_eq_getElem k0,List.getElem?_eq_getElem k1,g2,e]
       repeat refine ⟨sc,?_⟩
       try exact sf
  ·have k1:i < t.Rows.length:=by simp only [decide_eq_true_eq] at q; omega
   cases i with
   | zero =>
    have z:decide (((0:Nat):Int) > 0)=false:=rfl
    have good0:=rowGood_zero k1
    refine G3 q (List.getElem?_eq_getElem k1) z ?_
    refine C0 (c_i_RowOk t.Rows[0] (hR _ (List.getElem_mem k1))) ?_
    cases g:t.Rows[0].ok
    ·have e:t.ok=false:=by simp only [TabV.ok,rng_not k1 (good0.trans g),Bool.false_and]
     exact F1 e
    ·refine G1 z ?_
     refine ⟨1,by rw [IntWalk.i64_in _ (by omega)]; rfl,⟨k1,rng_step hp (good0.trans g)⟩,by omega⟩
   | succ j =>
    have k0:j < t.Rows.length:=by omega
    have z:decide (((j + 1:Nat):Int) > 0)=true:=decide_eq_true (by omega)
    have ew:IntKind.i64.wrap (((j + 1:Nat):Int) - 1)=(j:Int):=by rw [IntWalk.i64_in _ (by omega)]; omega
    have good1:=rowGood_succ k1
    refine G3 q (List.getElem?_eq_getElem k1) z ?_
    refine C0 (c_i_RowOk t.Rows[j + 1] (hR _ (List.getElem_mem k1))) ?_
    cases g:t.Rows[j + 1].ok
    ·have gg:rowGood t.Rows (j + 1)=false:=by rw [good1,g,Bool.false_and]
     have e:t.ok=false:=by simp only [TabV.ok,rng_not k1 gg,Bool.false_and]
     exact F1 e
    ·cases g2:Op.bytesLess t.Rows[j].Key.toList t.Rows[j + 1].Key.toList
     ·have gg:rowGood t.Rows (j + 1)=false:=by rw [good1,g2,Bool.and_false]
      have e:t.ok=false:=by simp only [TabV.ok,rng_not k1 gg,Bool.false_and]
      try simp -implicitDefEqProofs (maxSteps:=1000000) only [go_sem,z,ew,List.getElem?_eq_getElem k0,List.getElem?_eq_getElem k1,g2,e]
      repeat refine ⟨sc,?_⟩
      try exact sf
     ·have gg:rowGood t.Rows (j + 1)=true:=by rw [good1,g,g2]; rfl
      try simp -implicitDefEqProofs (maxSteps:=1000000) only [go_sem,z,ew,List.getElem?_eq_getElem k0,List.getElem?_eq_getElem k1,g2]
      repeat refine ⟨sc,?_⟩
      try exact sf
      refine ⟨j + 2,by rw [IntWalk.i64_in _ (by omega)]; rfl,⟨k1,rng_step hp gg⟩,by omega⟩
def x_i_withRow:FnX:=⟨48,[.tmp 4],
  .q [.v 3 1,.op 4 (.mv (.k (.one (.nils 7))))]
 (.q [.op 9 (.bslice 7 []),.m 5 9]
 (.q [.F 6]
 (.seq (.q [.m 10 0,.n 11 10,.i 12 0]
 (.block 0 (.loop [3,5,6,10,11,12] (.q [.b 13 .lss 12 11]
 (.seq (.cond 13 .skip (.exit 0))
 (.seq (.block 1 (.q [.x 14 7 10 12,.L 15 7 14,.op 8 (.alloc [.e,.i 0,.nils 1,.i 0,.nils 1,.i 0,.F]),.s 100001 7 8 15]
 (.seq (.q [.m 16 6,.N 17 16,.m 18 17,.y 18 (.f 19 8 0),.y 18 (.l 20 19),.y 18 (.f 21 3 0),.y 18 (.l 22 21),.y 18 (.b 23 .geq 20 22),.a 24 18 23]
 (.c 24 (.q [.m 25 5,.L 26 7 3,.c 27 153 [26],.op 28 (.bslice 7 [(.t 27)]),.op 29 (.app 7 96 (.t 25) (.t 28)),.m 5 29]
 (.reg [.T 6]))))
 (.q [.f 30 8 0,.l 31 30,.f 32 3 0,.l 33 32,.b 34 .neq 31 33]
 (.c 34 (.reg [.m 35 5,.L 36 7 8,.op 37 (.bslice 7 [(.t 36)]),.op 38 (.app 7 96 (.t 35) (.t 37)),.m 5 38]))))))
 (.reg [.B 39 .add 12 1,.m 12 39])))))))
 (.norm [3,5,6] (.seq (.q [.m 40 6,.N 41 40]
 (.c 41 (.reg [.m 42 5,.L 43 7 3,.c 44 153 [43],.op 45 (.bslice 7 [(.t 44)]),.op 46 (.app 7 96 (.t 42) (.t 45)),.m 5 46])))
 (.q [.m 47 5,.m 4 47]
 .ret))))))⟩
theorem r_i_withRow {Te:TE} (c_i_copyRow:C_i_copyRow Te):C_i_withRow (RF Te x_i_withRow):=by
 intro l r h hr
 refine X0 x_i_withRow.eq_1 ?_
 refine loop_of (σ:=Nat×List RowV×Bool) (fun x=>⟨[(3,.bp 3 0),(5,.one (.rf 50 0 [] 7 0 x.2.1.length)),(6,.one (.pv (.bool x.2.2))),(10,.one (.rf 0 0 [] 7 0 l.length)),(11,.one (.pv (.int .i64 l.length))),(12,.one (.pv (.int .i64 x.1)))],[(3,[.pv (.string r.Key),.pv (.int .i64 r.Old.Tag),.ro 1 (r.Old.B.map uR),.pv (.int .i64 r.New.Tag),.ro 1 (r.New.B.map uR),.pv (.int .i64 r.Has),.pv (.bool r.Aside)])],[(0,[Tr.sl true 7 () (leftRows r l x.1)]),(1,r.enc false),(50,[slT true 7 (RowV.enc true) x.2.1])]⟩) (fun x=>x.1≤l.length∧x.2=(l.take x.1).foldl (insR r) ([],false)) (fun x=>l.length - x.1) (0,[],false) ?_ ⟨Nat.zero_le _,rfl⟩ ?_
 ·simp -implicitDefEqProofs (maxSteps:=1000000) only [go_sem,left_zero]
  try rfl
 ·rintro ⟨i,o,p⟩ ⟨hi,he⟩
  simp only at hi he
  have hol:o.length≤2 * l.length:=by
   have:=insR_le r (l.take i) ([],false)
   rw [← he] at this
   simp only [List.length_nil,List.length_take] at this
   omega
  have ea:=app1Rw o r
  have et:List.take (o.length + 1) (List.map (RowV.enc true) (o++[r]))=List.map (RowV.enc true) (o++[r]):=List.take_of_length_le (by simp)
  cases q:decide ((i:Int) < (l.length:Int))
  ·have k0:i=l.length:=by simp only [decide_eq_false_iff_not] at q; omega
   rw [k0,List.take_length] at he
   subst k0
   cases p
   ·have e:insRow l r=o++[r]:=by rw [insRow,← he]; rfl
    refine G1 q ?_
    exact D3 (c_i_copyRow r hr) e ea et
   ·have e:insRow l r=o:=by rw [insRow,← he]; rfl
    exact F2 q e
  ·have k1:i < l.length:=by simp only [decide_eq_true_eq] at q; omega
   have es:=insR_step (r:=r) k1
   rw [← he] at es
   have eg:=left_get (r:=r) k1
   have ed:(leftRows r l i).getD i []=l[i].enc true:=by rw [List.getD_eq_getElem?_getD,eg]; rfl
   have el:=left_len r l i
   have ex:=left_set (r:=r) k1
   have e1:∀ X:List T,((leftRows r l i).set i X)[i]?=some X:=fun X=>List.getElem?_set_self (by rw [el]; exact k1)
   have e2:∀ X:List T,((leftRows r l i).set i X).getD i []=X:=fun X=>by rw [List.getD_eq_getElem?_getD,e1]; rfl
   have eb:=app1Rw o l[i]
   have ec:=app1Rw (o++[r]) l[i]
   cases g2:decide (l[i].Key=r.Key) <;> cases g1:Op.bytesLess l[i].Key.toList r.Key.toList <;> cases p
   all_goals
    simp only [insR,g1,g2,Bool.not_true,Bool.not_false,Bool.and_true,Bool.and_false,Bool.or_true,Bool.or_false,Bool.true_or,Bool.false_or,Bool.true_and,Bool.false_and,if_true,if_false,Bool.false_eq_true] at es
    simp only [leftR,g2,if_true,if_false,Bool.false_eq_true] at ex
    try simp -implicitDefEqProofs (maxSteps:=1000000) only [go_sem,q,g1,g2,eg,ed,el,ex,e1,e2,List.set_set,List.length_set,take_rows,take_all,ea,eb,ec,et]
    repeat refine ⟨sc,?_⟩
   all_goals try (refine .of (c_i_copyRow r hr) ?_; try simp -implicitDefEqProofs (maxSteps:=1000000) only [go_sem,g1,g2,eg,ed,el,ex,e1,e2,List.set_set,List.length_set,take_rows,take_all,ea,eb,ec,et])
   all_goals
    repeat refine ⟨sc,?_⟩
   all_goals
    refine ⟨(i + 1,(l.take (i + 1)).foldl (insR r) ([],false)),?_,⟨k1,rfl⟩,by simp only; omega⟩
    rw [← es,IntWalk.i64_in _ (by omega)]
    try simp only [List.length_append]
    try rw [left_same k1 g2]
    rfl
def x_u_appendRuneNonASCII:FnX:=⟨78,[.tmp 4],
  .q [.op 4 (.mv (.k (.one (.nils 1))))]
 (.q [.m 6 1,.op 7 (.conv (.int .u32) (.t 6)),.m 5 7]
 (.block 0 (.q [.m 12 5,.op 13 (.bin .leq (.t 12) (.k (.one (.pv (.int .u32 2047))))),.m 11 13]
 (.cond 11 (.q [.m 14 0,.m 15 1,.op 16 (.bin .shr (.t 15) (.k (.one (.pv (.int .u64 6))))),.op 17 (.conv (.int .u8) (.t 16)),.op 18 (.bin .or (.k (.one (.pv (.int .u8 192)))) (.t 17)),.m 19 1,.op 20 (.conv (.int .u8) (.t 19)),.op 21 (.bin .and (.t 20) (.k (.one (.pv (.int .u8 63))))),.op 22 (.bin .or (.k (.one (.pv (.int .u8 128)))) (.t 21)),.op 23 (.bslice 1 [(.t 18),(.t 22)]),.op 24 (.app 1 1 (.t 14) (.t 23)),.m 4 24]
 .ret) (.seq (.q [.m 26 5,.op 27 (.bin .lss (.t 26) (.k (.one (.pv (.int .u32 55296))))),.m 25 27]
 (.cond 25 .skip (.reg [.m 28 5,.op 29 (.bin .lss (.k (.one (.pv (.int .u32 57343)))) (.t 28)),.m 30 29,.y 30 (.m 31 5),.y 30 (.op 32 (.bin .leq (.t 31) (.k (.one (.pv (.int .u32 65535)))))),.a 33 30 32,.m 25 33])))
 (.cond 25 (.q [.m 34 0,.m 35 1,.op 36 (.bin .shr (.t 35) (.k (.one (.pv (.int .u64 12))))),.op 37 (.conv (.int .u8) (.t 36)),.op 38 (.bin .or (.k (.one (.pv (.int .u8 224)))) (.t 37)),.m 39 1,.op 40 (.bin .shr (.t 39) (.k (.one (.pv (.int .u64 6))))),.op 41 (.conv (.int .u8) (.t 40)),.op 42 (.bin .and (.t 41) (.k (.one (.pv (.int .u8 63))))),.op 43 (.bin .or (.k (.one (.pv (.int .u8 128)))) (.t 42)),.m 44 1,.op 45 (.conv (.int .u8) (.t 44)),.op 46 (.bin .and (.t 45) (.k (.one (.pv (.int .u8 63))))),.op 47 (.bin .or (.k (.one (.pv (.int .u8 128)))) (.t 46)),.op 48 (.bslice 1 [(.t 38),(.t 43),(.t 47)]),.op 49 (.app 1 1 (.t 34) (.t 48)),.m 4 49]
 .ret) (.q [.m 51 5,.op 52 (.bin .gtr (.t 51) (.k (.one (.pv (.int .u32 65535))))),.m 53 52,.y 53 (.m 54 5),.y 53 (.op 55 (.bin .leq (.t 54) (.k (.one (.pv (.int .u32 1114111)))))),.a 56 53 55,.m 50 56]
 (.cond 50 (.q [.m 57 0,.m 58 1,.op 59 (.bin .shr (.t 58) (.k (.one (.pv (.int .u64 18))))),.op 60 (.conv (.int .u8) (.t 59)),.op 61 (.bin .or (.k (.one (.pv (.int .u8 240)))) (.t 60)),.m 62 1,.op 63 (.bin .shr (.t 62) (.k (.one (.pv (.int .u64 12))))),.op 64 (.conv (.int .u8) (.t 63)),.op 65 (.bin .and (.t 64) (.k (.one (.pv (.int .u8 63))))),.op 66 (.bin .or (.k (.one (.pv (.int .u8 128)))) (.t 65)),.m 67 1,.op 68 (.bin .shr (.t 67) (.k (.one (.pv (.int .u64 6))))),.op 69 (.conv (.int .u8) (.t 68)),.op 70 (.bin .and (.t 69) (.k (.one (.pv (.int .u8 63))))),.op 71 (.bin .or (.k (.one (.pv (.int .u8 128)))) (.t 70)),.m 72 1,.op 73 (.conv (.int .u8) (.t 72)),.op 74 (.bin .and (.t 73) (.k (.one (.pv (.int .u8 63))))),.op 75 (.bin .or (.k (.one (.pv (.int .u8 128)))) (.t 74)),.op 76 (.bslice 1 [(.t 61),(.t 66),(.t 71),(.t 75)]),.op 77 (.app 1 1 (.t 57) (.t 76)),.m 4 77]
 .ret) (.q [.m 8 0,.op 9 (.bslice 1 [(.k (.one (.pv (.int .u8 239)))),(.k (.one (.pv (.int .u8 191)))),(.k (.one (.pv (.int .u8 189))))]),.op 10 (.app 1 1 (.t 8) (.t 9)),.m 4 10]
 .ret)))))))))⟩
theorem r_u_appendRuneNonASCII {Te:TE}:C_u_appendRuneNonASCII (RF Te x_u_appendRuneNonASCII):=by
 intro b m hb hm
 refine run0 ?_
 obtain ⟨hq,h1,h2⟩:=hm
 replace hq:¬ m≤127:=by omega
 have w32:IntKind.u32.wrap (m:Int)=(m:Int):=by rw [IntKind.wrap_u32]; omega
 have d6:(m:Int).fdiv (2 ^ 6)=((m / 64:Nat):Int):=fdivN m 64
 have d12:(m:Int).fdiv (2 ^ 12)=((m / 4096:Nat):Int):=fdivN m 4096
 have d18:(m:Int).fdiv (2 ^ 18)=((m / 262144:Nat):Int):=fdivN m 262144
 have n6:Nat.min 6 32=6:=rfl
 have n12:Nat.min 12 32=12:=rfl
 have n18:Nat.min 18 32=18:=rfl
 have a0:andK .u8 (((mkU (m:Int)).toNat:Nat):Int) 63=((m % 64:Nat):Int):=by rw [mkU_toNat,and8 _ (by omega)]; omega
 have a6:andK .u8 (((mkU ((m / 64:Nat):Int)).toNat:Nat):Int) 63=((m / 64 % 64:Nat):Int):=by rw [mkU_toNat,and8 _ (by omega)]; omega
 have a12:andK .u8 (((mkU ((m / 4096:Nat):Int)).toNat:Nat):Int) 63=((m / 4096 % 64:Nat):Int):=by rw [mkU_toNat,and8 _ (by omega)]; omega
 have o0:orK .u8 128 ((m % 64:Nat):Int)=((UInt8.ofNat (128 + m % 64)).toNat:Int):=or8 128 6 2 rfl (by omega) (by omega)
 have o6:orK .u8 128 ((m / 64 % 64:Nat):Int)=((UInt8.ofNat (128 + m / 64 % 64)).toNat:Int):=or8 128 6 2 rfl (by omega) (by omega)
 have o12:orK .u8 128 ((m / 4096 % 64:Nat):Int)=((UInt8.ofNat (128 + m / 4096 % 64)).toNat:Int):=or8 128 6 2 rfl (by omega) (by omega)
 cases q2:decide ((m:Int)≤2047)
 ·have hq2:¬ m≤2047:=by simp only [decide_eq_false_iff_not] at q2; omega
  cases q3:decide ((m:Int)≤65535)
  ·have hq3:¬ m≤65535:=by simp only [decide_eq_false_iff_not] at q3; omega
   have t:orK .u8 240 (((mkU ((m / 262144:Nat):Int)).toNat:Nat):Int)=((UInt8.ofNat (240 + m / 262144)).toNat:Int):=by
    rw [mkU_toNat,Nat.mod_eq_of_lt (by omega)]; exact or8 240 3 30 rfl (by omega) (by omega)
   have ee:List.take (b.length + 4) (List.map uR b++[[uT (UInt8.ofNat (240 + m / 262144))],[uT (UInt8.ofNat (128 + m / 4096 % 64))],[uT (UInt8.ofNat (128 + m / 64 % 64))],[uT (UInt8.ofNat (128 + m % 64))]])=List.map uR (b++enc8 m):=by
    rw [List.take_of_length_le (by simp)]
    simp only [enc8,if_neg hq,if_neg hq2,if_neg hq3,List.map_append,List.map_cons,List.map_nil]
   have c1:decide ((m:Int) < 55296)=false:=decide_eq_false (by omega)
   have c2:decide ((57343:Int) < (m:Int))=true:=decide_eq_true (by omega)
   have c3:decide ((m:Int) > 65535)=true:=decide_eq_true (by omega)
   have c4:decide ((m:Int)≤1114111)=true:=decide_eq_true (by omega)
   simp -implicitDefEqProofs (maxSteps:=1000000) only [x_u_appendRuneNonASCII,go_sem,w32,q2,q3,c1,c2,c3,c4,n6,n12,n18,d6,d12,d18,mkU_wrap,a0,a6,a12,o0,o6,o12,t,ee]
   repeat refine ⟨sc,?_⟩
   try exact sf
  ·have hq3:m≤65535:=by simp only [decide_eq_true_eq] at q3; omega
   have t:orK .u8 224 (((mkU ((m / 4096:Nat):Int)).toNat:Nat):Int)=((UInt8.ofNat (224 + m / 4096)).toNat:Int):=by
    rw [mkU_toNat,Nat.mod_eq_of_lt (by omega)]; exact or8 224 4 14 rfl (by omega) (by omega)
   have ee:List.take (b.length + 3) (List.map uR b++[[uT (UInt8.ofNat (224 + m / 4096))],[uT (UInt8.ofNat (128 + m / 64 % 64))],[uT (UInt8.ofNat (128 + m % 64))]])=List.map uR (b++enc8 m):=by
    rw [List.take_of_length_le (by simp)]
    simp only [enc8,if_neg hq,if_neg hq2,if_pos hq3,List.map_append,List.map_cons,List.map_nil]
   cases c1:decide ((m:Int) < 55296)
   ·have c2:decide ((57343:Int) < (m:Int))=true:=decide_eq_true (by simp only [decide_eq_false_iff_not] at c1; omega)
    simp -implicitDefEqProofs (maxSteps:=1000000) only [x_u_appendRuneNonASCII,go_sem,w32,q2,q3,c1,c2,n6,n12,d6,d12,mkU_wrap,a0,a6,o0,o6,t,ee]
    repeat refine ⟨sc,?_⟩
    try exact sf
   ·simp -implicitDefEqProofs (maxSteps:=1000000) only [x_u_appendRuneNonASCII,go_sem,w32,q2,q3,c1,n6,n12,d6,d12,mkU_wrap,a0,a6,o0,o6,t,ee]
    repeat refine ⟨sc,?_⟩
    try exact sf
 ·have hq2:m≤2047:=by simp only [decide_eq_true_eq] at q2; omega
  have t:orK .u8 192 (((mkU ((m / 64:Nat):Int)).toNat:Nat):Int)=((UInt8.ofNat (192 + m / 64)).toNat:Int):=by
   rw [mkU_toNat,Nat.mod_eq_of_lt (by omega)]; exact or8 192 6 3 rfl (by omega) (by omega)
  have ee:List.take (b.length + 2) (List.map uR b++[[uT (UInt8.ofNat (192 + m / 64))],[uT (UInt8.ofNat (128 + m % 64))]])=List.map uR (b++enc8 m):=by
   rw [List.take_of_length_le (by simp)]
   simp only [enc8,if_neg hq,if_pos hq2,List.map_append,List.map_cons,List.map_nil]
  simp -implicitDefEqProofs (maxSteps:=1000000) only [x_u_appendRuneNonASCII,go_sem,w32,q2,n6,d6,mkU_wrap,a0,o0,t,ee]
  repeat refine ⟨sc,?_⟩
  try exact sf
def x_s_l10Copy:FnX:=⟨58,[.cell 2 (some 4)],
  .q [.v 1 0,.op 2 (.alloc [.nils 1,.nils 2,.i 0,.F])]
 (.q [.f 6 1 2,.l 7 6,.f 8 1 3,.l 9 8,.op 10 (.build [.nils 1,.nils 2,.i 0,.F] [(2,1,(.t 7)),(3,1,(.t 9))]),.op 3 (.alloc [.nils 1,.nils 2,.i 0,.F]),.s 100001 4 3 10]
 (.seq (.q [.i 4 0]
 (.up 3 1 300001 (.up 3 0 300000 (.block 0 (.loop [1,2,3,4] (.seq (.q [.m 11 4,.f 12 1 0,.l 13 12,.n 14 13,.b 15 .lss 11 14]
 (.cond 15 .skip (.exit 0)))
 (.seq (.block 1 (.draw [.f 18 3 0,.l 19 18,.op 20 (.bslice 1 []),.f 21 1 0,.l 22 21,.m 23 4,.x 24 1 22 23,.l 25 24,.op 26 (.app 1 1 (.t 20) (.t 25)),.op 27 (.bslice 1 [(.t 26)]),.op 28 (.app 1 24 (.t 19) (.t 27)),.f 29 3 0,.s 100002 1 29 28] [[],[0],[],[],[3],[],[4,5],[6],[2,7],[8],[1,9,8],[0,1,2,3,4,5,6,7,8,9,10],[11,10,10,0,1,2,3,4,5,6,7,8,9,10]]))
 (.reg [.m 16 4,.B 17 .add 16 1,.m 4 17]))))))))
 (.norm [1,2,3] (.seq (.q [.i 5 0]
 (.block 2 (.loop [1,2,3,5] (.seq (.q [.m 30 5,.f 31 1 1,.l 32 31,.n 33 32,.b 34 .lss 30 33]
 (.cond 34 .skip (.exit 2)))
 (.seq (.block 3 (.draw [.f 37 3 1,.l 38 37,.f 39 1 1,.l 40 39,.m 41 5,.x 42 2 40 41,.f 43 42 0,.l 44 43,.op 45 (.bslice 1 []),.f 46 1 1,.l 47 46,.m 48 5,.x 49 2 47 48,.f 50 49 1,.l 51 50,.op 52 (.app 1 1 (.t 45) (.t 51)),.op 53 (.build [.i 0,.nils 1] [(0,1,(.t 44)),(1,1,(.t 52))]),.op 54 (.bslice 2 [(.t 53)]),.op 55 (.app 2 32 (.t 38) (.t 54)),.f 56 3 1,.s 100003 1 56 55] [[],[0],[],[2],[],[3,4],[5],[6],[],[],[9],[],[10,11],[12],[13],[8,14],[7,15],[16],[1,17,15],[0,1,2,3,4,5,6,7,8,9,10,11,12,13,14,15,16,17,18],[19,18,18,0,1,2,3,4,5,6,7,8,9,10,11,12,13,14,15,16,17,18]]))
 (.reg [.m 35 5,.B 36 .add 35 1,.m 5 36]))))))
 (.norm [2,3] (.q [.L 57 4 3,.s 100004 4 2 57]
 .ret))))))⟩
theorem r_s_l10Copy {Te:TE}:C_s_l10Copy (RF Te x_s_l10Copy):=by
 intro d h
 obtain ⟨⟨hS,hSl⟩,hC,hCl⟩:=h
 refine X0 x_s_l10Copy.eq_1 ?_
 refine loop_of (σ:=Nat×List (List UInt8)) (fun x=>⟨[(1,.bp 1 0),(2,.bp 2 0),(3,.bp 3 0),(4,.one (.pv (.int .i64 x.1)))],[(1,[.ro 1 (d.Secs.map (secR false)),.ro 2 (d.Cache.map (WrV.enc false)),.pv (.int .i64 d.Fuse),.pv (.bool d.Down)]),(2,[.nils 1,.nils 2,.pv (.int .i64 0),.pv (.bool false)]),(3,[.rf 59 0 [] 1 0 x.2.length,.rf 60 0 [] 2 0 0,.pv (.int .i64 d.Fuse),.pv (.bool d.Down)])],[(0,d.enc false),(59,[slT true 1 (secR true) x.2]),(60,[slT true 2 (WrV.enc true) []])]⟩) (fun x=>x.1≤d.Secs.length∧x.2=d.Secs.take x.1) (fun x=>d.Secs.length - x.1) (0,[]) ?_ ⟨Nat.zero_le _,rfl⟩ ?_
 ·simp -implicitDefEqProofs (maxSteps:=1000000) only [go_sem]
  try rfl
 ·rintro ⟨i,l⟩ ⟨hi,he⟩
  simp only at hi he
  have hl:l.length=i:=by rw [he,List.length_take]; omega
  cases q:decide ((i:Int) < (d.Secs.length:Int))
  ·have k0:i=d.Secs.length:=by simp only [decide_eq_false_iff_not] at q; omega
   rw [k0,List.take_length] at he
   subst he
   refine G1 q ?_
   refine loop_of (σ:=Nat×List WrV) (fun x=>⟨[(1,.bp 1 0),(2,.bp 2 0),(3,.bp 3 0),(5,.one (.pv (.int .i64 x.1)))],[(1,[.ro 1 (d.Secs.map (secR false)),.ro 2 (d.Cache.map (WrV.enc false)),.pv (.int .i64 d.Fuse),.pv (.bool d.Down)]),(2,[.nils 1,.nils 2,.pv (.int .i64 0),.pv (.bool false)]),(3,[.rf 59 0 [] 1 0 d.Secs.length,.rf 60 0 [] 2 0 x.2.length,.pv (.int .i64 d.Fuse),.pv (.bool d.Down)])],[(0,d.enc false),(59,[slT true 1 (secR true) d.Secs]),(60,[slT true 2 (WrV.enc true) x.2])]⟩) (fun x=>x.1≤d.Cache.length∧x.2=d.Cache.take x.1) (fun x=>d.Cache.length - x.1) (0,[]) ?_ ⟨Nat.zero_le _,rfl⟩ ?_
   ·simp -implicitDefEqProofs (maxSteps:=1000000) only [go_sem]
    try rfl
   ·rintro ⟨j,m⟩ ⟨hj,hm⟩
    simp only at hj hm
    have hml:m.length=j:=by rw [hm,List.length_take]; omega
    cases q2:decide ((j:Int) < (d.Cache.length:Int))
    ·have k2:j=d.Cache.length:=by simp only [decide_eq_false_iff_not] at q2; omega
     rw [k2,List.take_length] at hm
     subst hm
     exact F1 q2
    ·have k2:j < d.Cache.length:=by simp only [decide_eq_true_eq] at q2; omega
     have hb:d.Cache[j].B.length≤2 ^ 21:=hCl _ (List.getElem_mem k2)
     have ea:=app1W m d.Cache[j]
     refine G3 q2 (List.getElem?_eq_getElem k2) ea ?_
     refine ⟨(j + 1,m++[d.Cache[j]]),?_,⟨k2,by rw [hm,List.take_succ_eq_append_getElem k2]⟩,by simp only; omega⟩
     rw [IntWalk.i64_in _ (by omega)]
     simp only [List.length_append]
     rfl
  ·have k1:i < d.Secs.length:=by simp only [decide_eq_true_eq] at q; omega
   have hb:d.Secs[i].length≤2 ^ 21:=hSl _ (List.getElem_mem k1)
   have ea:=app1S l d.Secs[i]
   refine G3 q (List.getElem?_eq_getElem k1) ea ?_
   refine ⟨(i + 1,l++[d.Secs[i]]),?_,⟨k1,by rw [he,List.take_succ_eq_append_getElem k1]⟩,by simp only; omega⟩
   rw [IntWalk.i64_in _ (by omega)]
   simp only [List.length_append]
   rfl
def x_i_copyTab:FnX:=⟨29,[.cell 2 (some 3)],
  .q [.v 1 0,.op 2 (.alloc [.nils 7,.i 0,.nils 3])]
 (.seq (.draw [.f 6 1 1,.l 7 6,.op 8 (.bslice 3 []),.f 9 1 2,.l 10 9,.op 11 (.app 3 24 (.t 8) (.t 10)),.op 12 (.build [.nils 7,.i 0,.nils 3] [(1,1,(.t 7)),(2,1,(.t 11))]),.op 3 (.alloc [.nils 7,.i 0,.nils 3]),.s 100001 3 3 12] [[],[0],[],[],[3],[2,4],[1,5],[],[7,6,5,0,1,2,3,4,5,6,7]])
 (.seq (.q [.f 13 1 0,.l 14 13,.n 15 14,.i 16 0]
 (.up 3 0 300000 (.block 0 (.loop [2,3,14,15,16] (.q [.b 17 .lss 16 15]
 (.seq (.cond 17 .skip (.exit 0))
 (.seq (.block 1 (.q [.x 18 7 14 16,.L 19 7 18,.op 5 (.alloc [.e,.i 0,.nils 1,.i 0,.nils 1,.i 0,.F]),.s 100002 7 5 19]
 (.draw [.f 20 3 0,.l 21 20,.L 22 7 5,.c 23 153 [22],.op 24 (.bslice 7 [(.t 23)]),.op 25 (.app 7 96 (.t 21) (.t 24)),.f 26 3 0,.s 100003 1 26 25] [[],[0],[],[2],[3],[1,4,3],[0,1,2,3,4,5],[6,5,5,0,1,2,3,4,5]])))
 (.reg [.B 27 .add 16 1,.m 16 27]))))))))
 (.norm [2,3] (.q [.L 28 3 3,.s 100004 3 2 28]
 .ret))))⟩
theorem r_i_copyTab {Te:TE} (c_i_copyRow:C_i_copyRow Te):C_i_copyTab (RF Te x_i_copyTab):=by
 intro t h
 obtain ⟨⟨hR,hRl⟩,hM⟩:=h
 refine X0 x_i_copyTab.eq_1 ?_
 refine loop_of (σ:=Nat×List RowV) (fun x=>⟨[(2,.bp 2 0),(3,.bp 3 0),(14,.one (.ro 7 (t.Rows.map (RowV.enc false)))),(15,.one (.pv (.int .i64 t.Rows.length))),(16,.one (.pv (.int .i64 x.1)))],[(2,[.nils 7,.pv (.int .i64 0),.nils 3]),(3,[.rf 30 0 [] 7 0 x.2.length,.pv (.int .i64 t.Phase),.rf 31 0 [] 3 0 t.Marks.length])],[(0,t.enc false),(30,[slT true 7 (RowV.enc true) x.2]),(31,[slT true 3 MarkV.row t.Marks])]⟩) (fun x=>x.1≤t.Rows.length∧x.2=t.Rows.take x.1) (fun x=>t.Rows.length - x.1) (0,[]) ?_ ⟨Nat.zero_le _,rfl⟩ ?_
 ·simp -implicitDefEqProofs (maxSteps:=1000000) only [go_sem]
  try rfl
 ·rintro ⟨i,l⟩ ⟨hi,he⟩
  simp only at hi he
  have hl:l.length=i:=by rw [he,List.length_take]; omega
  cases q:decide ((i:Int) < (t.Rows.length:Int))
  ·have k0:i=t.Rows.length:=by simp only [decide_eq_false_iff_not] at q; omega
   rw [k0,List.take_length] at he
   subst he
   exact F1 q
  ·have k1:i < t.Rows.length:=by simp only [decide_eq_true_eq] at q; omega
   have ea:=app1Rw l t.Rows[i]
   refine G2 q (List.getElem?_eq_getElem k1) ?_
   refine C1 (c_i_copyRow t.Rows[i] (hRl _ (List.getElem_mem k1))) ea ?_
   refine ⟨(i + 1,l++[t.Rows[i]]),?_,⟨k1,by rw [he,List.take_succ_eq_append_getElem k1]⟩,by simp only; omega⟩
   rw [IntWalk.i64_in _ (by omega)]
   simp only [List.length_append]
   rfl
def x_i_actOf:FnX:=⟨22,[.cell 4 (some 6)],
  .q [.v 2 0,.op 4 (.alloc [.i 0,.i 0,.i 0,.e,.e,.i 0])]
 (.q [.f 6 2 1,.l 7 6,.f 8 2 3,.l 9 8,.f 10 2 4,.l 11 10,.m 12 1,.op 13 (.build [.i 0,.i 0,.i 0,.e,.e,.i 0] [(0,1,(.i 2)),(1,1,(.t 7)),(2,1,(.t 9)),(3,1,(.t 11)),(5,1,(.t 12))]),.op 5 (.alloc [.i 0,.i 0,.i 0,.e,.e,.i 0]),.s 100001 6 5 13]
 (.seq (.q [.f 14 2 0,.l 15 14,.B 16 .eql 15 3]
 (.c 16 (.draw [.f 17 2 5,.l 18 17,.f 19 5 0,⟨none,none,100002,.store 1 (.t 19) (.i 1)⟩,.f 20 5 4,.s 100003 1 20 18] [[],[0],[],[2],[0,1,2,3],[4,1,3,0,1,2,3]])))
 (.q [.L 21 6 5,.s 100004 6 4 21]
 .ret)))⟩
theorem r_i_actOf {Te:TE}:C_i_actOf (RF Te x_i_actOf):=by
 intro m code
 refine X0 x_i_actOf.eq_1 ?_
 cases g:(m.Kind==3)
 ·try simp -implicitDefEqProofs (maxSteps:=1000000) only [go_sem,g,actV]
  repeat refine ⟨sc,?_⟩
  try exact sf
  try rfl
 ·try simp -implicitDefEqProofs (maxSteps:=1000000) only [go_sem,g,actV]
  repeat refine ⟨sc,?_⟩
  try exact sf
  try rfl
def x_s_l18Act:FnX:=⟨22,[.cell 4 (some 6)],
  .q [.v 2 0,.op 4 (.alloc [.i 0,.i 0,.i 0,.e,.e,.i 0])]
 (.q [.f 6 2 1,.l 7 6,.f 8 2 3,.l 9 8,.f 10 2 4,.l 11 10,.f 12 2 5,.l 13 12,.m 14 1,.op 15 (.build [.i 0,.i 0,.i 0,.e,.e,.i 0] [(0,1,(.i 1)),(1,1,(.t 7)),(2,1,(.t 9)),(3,1,(.t 11)),(4,1,(.t 13)),(5,1,(.t 14))]),.op 5 (.alloc [.i 0,.i 0,.i 0,.e,.e,.i 0]),.s 100001 6 5 15]
 (.seq (.q [.f 16 2 0,.l 17 16,.B 18 .eql 17 4]
 (.c 18 (.q [.f 19 5 0,⟨none,none,100002,.store 1 (.t 19) (.i 2)⟩]
 (.reg [.f 20 5 4,⟨none,none,100003,.store 1 (.t 20) (.k (.one (.pv (.string ⟨#[]⟩))))⟩]))))
 (.q [.L 21 6 5,.s 100004 6 4 21]
 .ret)))⟩
theorem r_s_l18Act {Te:TE}:C_s_l18Act (RF Te x_s_l18Act):=by
 intro m code h
 refine X0 x_s_l18Act.eq_1 ?_
 cases g:(m.Kind==3)
 ·have g4:(m.Kind==4)=true:=by simp only [beq_iff_eq,beq_eq_false_iff_ne] at g ⊢; omega
  try simp -implicitDefEqProofs (maxSteps:=1000000) only [go_sem,g,g4,actV]
  repeat refine ⟨sc,?_⟩
  try exact sf
  try rfl
 ·have g4:(m.Kind==4)=false:=by simp only [beq_iff_eq,beq_eq_false_iff_ne] at g ⊢; omega
  try simp -implicitDefEqProofs (maxSteps:=1000000) only [go_sem,g,g4,actV]
  repeat refine ⟨sc,?_⟩
  try exact sf
  try rfl
def x_i_atDesk:FnX:=⟨16,[.tmp 4],
  .q [.v 2 0,.v 3 1,.F 4]
 (.q [.L 5 8 3,.c 6 56 [5],.m 7 6,.y 7 (.f 8 3 2),.y 7 (.l 9 8),.y 7 (.op 10 (.call 57 [0,0,0] [(.t 9),(.i 3),(.i 4)])),.a 11 7 10,.m 12 11,.y 12 (.L 13 10 2),.y 12 (.c 14 58 [13]),.a 15 12 14,.m 4 15]
 .ret)⟩
theorem r_i_atDesk {Te:TE} (c_i_MsgOk:C_i_MsgOk Te) (c_i_within:C_i_within Te) (c_i_isUp:C_i_isUp Te):C_i_atDesk (RF Te x_i_atDesk):=by
 intro n m hn
 refine X0 x_i_atDesk.eq_1 ?_
 refine C0 (c_i_MsgOk m) ?_
 cases g:m.ok
 ·exact F0
 refine G0 ?_
 refine C0 (c_i_within _ _ _) ?_
 cases g2:win m.To 3 4
 ·exact F0
 refine G0 ?_
 exact D0 (c_i_isUp n (hn.mono (by decide)))
def x_l_heldTab:FnX:=⟨18,[.tmp 4],
  .q [.v 2 0,.i 4 0]
 (.q [.f 5 2 0,.l 6 5,.m 7 1,.c 8 124 [6,7],.m 1 8]
 (.seq (.q [.m 9 1,.B 10 .lss 9 0]
 (.c 10 (.q [.i 4 (-1)]
 .ret)))
 (.q [.f 11 2 2,.l 12 11,.m 13 1,.c 14 125 [12,13],.m 1 14]
 (.seq (.q [.m 15 1,.B 16 .lss 15 0]
 (.c 16 (.q [.i 4 (-1)]
 .ret)))
 (.q [.m 17 1,.m 4 17]
 .ret)))))⟩
theorem r_l_heldTab {Te:TE} (c_l_heldRowS:C_l_heldRowS Te) (c_l_heldMarkS:C_l_heldMarkS Te):C_l_heldTab (RF Te x_l_heldTab):=by
 intro x k hx hk
 refine run0 ?_
 obtain ⟨h0,h1⟩:=hx
 simp -implicitDefEqProofs (maxSteps:=1000000) only [x_l_heldTab,go_sem]
 refine .of (c_l_heldRowS x.Rows _ h0 (by omega)) ?_
 simp -implicitDefEqProofs (maxSteps:=1000000) only [go_sem]
 have w0:=farL_le (k:=k) (c:=4194309) h0 (fun y hy k=>RowV.farE_le hy k)
 refine ⟨fun q=>by simp only [decide_eq_true_eq] at q; omega,fun _=>?_⟩
 refine .of (c_l_heldMarkS x.Marks.length _ (Nat.le_trans h1 (by decide)) (by omega)) ?_
 simp -implicitDefEqProofs (maxSteps:=1000000) only [go_sem]
 refine ⟨fun q=>by simp only [decide_eq_true_eq] at q; omega,fun _=>?_⟩
 rfl
def x_l_szStore:FnX:=⟨18,[.tmp 4],
  .q [.v 2 0,.i 4 0]
 (.q [.f 5 2 0,.L 6 4 5,.m 7 1,.c 8 40 [6,7],.m 1 8]
 (.seq (.q [.m 9 1,.B 10 .lss 9 0]
 (.c 10 (.q [.i 4 (-1)]
 .ret)))
 (.q [.f 11 2 4,.L 12 3 11,.m 13 1,.c 14 41 [12,13],.m 1 14]
 (.seq (.q [.m 15 1,.B 16 .lss 15 0]
 (.c 16 (.q [.i 4 (-1)]
 .ret)))
 (.q [.m 17 1,.m 4 17]
 .ret)))))⟩
theorem r_l_szStore {Te:TE} (c_l_szDev:C_l_szDev Te) (c_l_szTab:C_l_szTab Te):C_l_szStore (RF Te x_l_szStore):=by
 intro x k hx hk
 refine run0 ?_
 obtain ⟨h0,h1⟩:=hx
 simp -implicitDefEqProofs (maxSteps:=1000000) (disch:=omega) only [x_l_szStore,go_sem,IntWalk.i64_in]
 refine .of (c_l_szDev _ _ h0 hk) ?_
 simp -implicitDefEqProofs (maxSteps:=1000000) (disch:=omega) only [go_sem,IntWalk.i64_in]
 refine ⟨fun q0=>?_,fun q0=>?_⟩
 ·simp only [decide_eq_true_eq] at q0
  simp only [szStore,szAll,if_pos q0]
 ·simp only [decide_eq_false_iff_not] at q0
  have k1:0≤(szDev x.D k)∧(szDev x.D k)≤2 ^ 48:=⟨by omega,Int.le_trans ((szDev_sane _) _ hk.1) hk.2⟩
  refine .of (c_l_szTab _ _ h1 k1) ?_
  simp -implicitDefEqProofs (maxSteps:=1000000) (disch:=omega) only [go_sem,IntWalk.i64_in]
  refine ⟨fun q1=>?_,fun q1=>?_⟩
  ·simp only [decide_eq_true_eq] at q1
   simp only [szStore,szAll,if_neg q0,if_pos q1]
  ·simp only [decide_eq_false_iff_not] at q1
   have k2:0≤(szTab x.T (szDev x.D k))∧(szTab x.T (szDev x.D k))≤2 ^ 48:=⟨by omega,Int.le_trans ((szTab_sane _) _ k1.1) k1.2⟩
   simp only [szStore,szAll,if_neg q0,if_neg q1]
def x_l_toStore:FnX:=⟨19,[.cell 2 (some 9)],
  .q [.v 1 0,.op 2 (.alloc [.nils 1,.nils 2,.i 0,.F,.nils 7,.i 0,.nils 3,.i 0,.i 0])]
 (.q [.op 3 (.alloc [.nils 1,.nils 2,.i 0,.F,.nils 7,.i 0,.nils 3,.i 0,.i 0])]
 (.q [.f 4 1 0,.L 5 4 4,.c 6 53 [5],.f 7 3 0,.s 100001 4 7 6]
 (.q [.f 8 1 4,.L 9 3 8,.c 10 54 [9],.f 11 3 4,.s 100002 3 11 10]
 (.q [.f 12 1 7,.l 13 12,.f 14 3 7,.s 100003 1 14 13]
 (.q [.f 15 1 8,.l 16 15,.f 17 3 8,.s 100004 1 17 16]
 (.q [.L 18 9 3,.s 100005 9 2 18]
 .ret))))))⟩
theorem r_l_toStore {Te:TE} (c_l_toDev:C_l_toDev Te) (c_l_toTab:C_l_toTab Te):C_l_toStore (RF Te x_l_toStore):=by
 intro x hx
 refine run0 ?_
 obtain ⟨h0,h1⟩:=hx
 simp -implicitDefEqProofs (maxSteps:=1000000) only [x_l_toStore,go_sem]
 refine C0 (c_l_toDev _ h0) ?_
 exact D0 (c_l_toTab _ h1)
def x_l_eqStore:FnX:=⟨27,[.tmp 4],
  .q [.v 2 0,.v 3 1,.F 4]
 (.seq (.q [.f 5 2 0,.L 6 4 5,.f 7 3 0,.L 8 4 7,.c 9 72 [6,8],.N 10 9]
 (.c 10 (.q [.F 4]
 .ret)))
 (.seq (.q [.f 11 2 4,.L 12 3 11,.f 13 3 4,.L 14 3 13,.c 15 73 [12,14],.N 16 15]
 (.c 16 (.q [.F 4]
 .ret)))
 (.seq (.q [.f 17 2 7,.l 18 17,.f 19 3 7,.l 20 19,.b 21 .neq 18 20]
 (.c 21 (.q [.F 4]
 .ret)))
 (.seq (.q [.f 22 2 8,.l 23 22,.f 24 3 8,.l 25 24,.b 26 .neq 23 25]
 (.c 26 (.q [.F 4]
 .ret)))
 (.q [.T 4]
 .ret)))))⟩
theorem r_l_eqStore {Te:TE} (c_l_eqDev:C_l_eqDev Te) (c_l_eqTab:C_l_eqTab Te):C_l_eqStore (RF Te x_l_eqStore):=by
 intro x y hx
 refine run0 ?_
 obtain ⟨h0,h1⟩:=hx
 have key:(x=y)↔x.D=y.D∧x.T=y.T∧x.Gen=y.Gen∧x.Place=y.Place:=by cases x; cases y; simp
 simp only [key]
 clear key
 simp -implicitDefEqProofs (maxSteps:=1000000) only [x_l_eqStore,go_sem]
 refine .of (c_l_eqDev _ _ h0) ?_
 simp -implicitDefEqProofs (maxSteps:=1000000) only [go_sem]
 refine ⟨fun q=>?_,fun q=>?_⟩
 ·have n0:¬ (x.D=y.D):=by simpa using q
  simp only [n0,false_and,and_false,true_and,decide_false]
 have e0:x.D=y.D:=by simpa using q
 clear q
 refine .of (c_l_eqTab _ _ h1) ?_
 simp -implicitDefEqProofs (maxSteps:=1000000) only [go_sem]
 refine ⟨fun q=>?_,fun q=>?_⟩
 ·have n1:¬ (x.T=y.T):=by simpa using q
  simp only [e0,n1,false_and,and_false,true_and,decide_false]
 have e1:x.T=y.T:=by simpa using q
 clear q
 refine ⟨fun q=>?_,fun q=>?_⟩
 ·have n2:¬ (x.Gen=y.Gen):=by simpa using q
  simp only [e0,e1,n2,false_and,and_false,true_and,decide_false]
 have e2:x.Gen=y.Gen:=by simpa using q
 clear q
 refine ⟨fun q=>?_,fun q=>?_⟩
 ·have n3:¬ (x.Place=y.Place):=by simpa using q
  simp only [e0,e1,e2,n3,false_and,and_false,true_and,decide_false]
 have e3:x.Place=y.Place:=by simpa using q
 clear q
 simp only [e0,e1,e2,e3,true_and,and_true,decide_true]
def x_l_markStore:FnX:=⟨14,[.tmp 4],
  .q [.v 2 0,.i 4 0]
 (.q [.f 5 2 0,.L 6 4 5,.m 7 1,.op 8 (.io 74 (.t 6) [(.t 7)]),.m 1 8]
 (.q [.f 9 2 4,.L 10 3 9,.m 11 1,.op 12 (.io 75 (.t 10) [(.t 11)]),.m 1 12]
 (.q [.m 13 1,.m 4 13]
 .ret)))⟩
theorem r_l_markStore {Te:TE} (c_l_markDev:C_l_markDev Te) (c_l_markTab:C_l_markTab Te):C_l_markStore (RF Te x_l_markStore):=by
 intro x k hx hk
 refine run0 ?_
 obtain ⟨h0,h1⟩:=hx
 simp -implicitDefEqProofs (maxSteps:=1000000) only [x_l_markStore,go_sem]
 repeat (refine ⟨by decide,?_⟩)
 refine .of (c_l_markDev _ _ h0 (by omega)) ?_
 simp -implicitDefEqProofs (maxSteps:=1000000) only [go_sem]
 repeat (refine back_bif (by simp -implicitDefEqProofs (maxSteps:=1000000) only [go_sem]) ?_; simp -implicitDefEqProofs (maxSteps:=1000000) only [go_sem])
 have w0:=DevV.far_le h0 k
 repeat (refine ⟨by decide,?_⟩)
 refine .of (c_l_markTab _ _ h1 (by omega)) ?_
 simp -implicitDefEqProofs (maxSteps:=1000000) only [go_sem]
 repeat (refine back_bif (by simp -implicitDefEqProofs (maxSteps:=1000000) only [go_sem]) ?_; simp -implicitDefEqProofs (maxSteps:=1000000) only [go_sem])
 have w1:=TabV.far_le h1 (x.D.far k)
 rfl
def x_l_heldStore:FnX:=⟨18,[.tmp 4],
  .q [.v 2 0,.i 4 0]
 (.q [.f 5 2 0,.L 6 4 5,.m 7 1,.c 8 76 [6,7],.m 1 8]
 (.seq (.q [.m 9 1,.B 10 .lss 9 0]
 (.c 10 (.q [.i 4 (-1)]
 .ret)))
 (.q [.f 11 2 4,.L 12 3 11,.m 13 1,.c 14 77 [12,13],.m 1 14]
 (.seq (.q [.m 15 1,.B 16 .lss 15 0]
 (.c 16 (.q [.i 4 (-1)]
 .ret)))
 (.q [.m 17 1,.m 4 17]
 .ret)))))⟩
theorem r_l_heldStore {Te:TE} (c_l_heldDev:C_l_heldDev Te) (c_l_heldTab:C_l_heldTab Te):C_l_heldStore (RF Te x_l_heldStore):=by
 intro x k hx hk
 refine run0 ?_
 obtain ⟨h0,h1⟩:=hx
 simp -implicitDefEqProofs (maxSteps:=1000000) only [x_l_heldStore,go_sem]
 refine .of (c_l_heldDev x.D _ h0 (by omega)) ?_
 simp -implicitDefEqProofs (maxSteps:=1000000) only [go_sem]
 have w0:=DevV.far_le h0 k
 refine ⟨fun q=>by simp only [decide_eq_true_eq] at q; omega,fun _=>?_⟩
 refine .of (c_l_heldTab x.T _ h1 (by omega)) ?_
 simp -implicitDefEqProofs (maxSteps:=1000000) only [go_sem]
 have w1:=TabV.far_le h1 (x.D.far k)
 refine ⟨fun q=>by simp only [decide_eq_true_eq] at q; omega,fun _=>?_⟩
 rfl
def x_l_szNode:FnX:=⟨12,[.tmp 4],
  .q [.v 2 0,.i 4 0]
 (.q [.f 5 2 0,.L 6 9 5,.m 7 1,.c 8 19 [6,7],.m 1 8]
 (.seq (.q [.m 9 1,.B 10 .lss 9 0]
 (.c 10 (.q [.i 4 (-1)]
 .ret)))
 (.q [.m 11 1,.m 4 11]
 .ret)))⟩
theorem r_l_szNode {Te:TE} (c_l_szStore:C_l_szStore Te):C_l_szNode (RF Te x_l_szNode):=by
 intro x k hx hk
 refine run0 ?_
 have h0:=hx
 simp -implicitDefEqProofs (maxSteps:=1000000) (disch:=omega) only [x_l_szNode,go_sem,IntWalk.i64_in]
 refine .of (c_l_szStore _ _ h0 hk) ?_
 simp -implicitDefEqProofs (maxSteps:=1000000) (disch:=omega) only [go_sem,IntWalk.i64_in]
 refine ⟨fun q0=>?_,fun q0=>?_⟩
 ·simp only [decide_eq_true_eq] at q0
  simp only [szNode,szAll,if_pos q0]
 ·simp only [decide_eq_false_iff_not] at q0
  have k1:0≤(szStore x.S k)∧(szStore x.S k)≤2 ^ 48:=⟨by omega,Int.le_trans ((szStore_sane _) _ hk.1) hk.2⟩
  simp only [szNode,szAll,if_neg q0]
def x_i_CellOk:FnX:=⟨12,[.tmp 2],
  .q [.v 1 0,.F 2]
 (.q [.f 3 1 0,.l 4 3,.c 5 196 [4],.m 6 5,.y 6 (.f 7 1 1),.y 6 (.l 8 7),.y 6 (.n 9 8),.y 6 (.B 10 .leq 9 20),.a 11 6 10,.m 2 11]
 .ret)⟩
theorem r_i_CellOk {Te:TE} (c_i_isSet:C_i_isSet Te):C_i_CellOk (RF Te x_i_CellOk):=by
 intro c
 refine run0 ?_
 simp -implicitDefEqProofs (maxSteps:=1000000) only [x_i_CellOk,go_sem,CellV.ok]
 repeat refine ⟨sc,?_⟩
 try exact sf
 refine C0 (c_i_isSet _) ?_
 cases g:win c.Tag 0 5
 ·exact F1 g
 ·exact F1 g
def x_i_CellText:FnX:=⟨14,[.tmp 2,.tmp 3],
  .q [.v 1 0,.op 2 (.mv (.k (.one (.pv (.string ⟨#[]⟩))))),.F 3]
 (.seq (.q [.L 4 2 1,.c 5 155 [4],.N 6 5]
 (.c 6 (.q [.op 2 (.mv (.k (.one (.pv (.string ⟨#[]⟩))))),.F 3]
 .ret)))
 (.q [.f 7 1 0,.l 8 7,.f 9 1 1,.l 10 9,.c 11 156 [8,10],.e 12 11 0,.e 13 11 1,.m 2 12,.m 3 13]
 .ret))⟩
theorem r_i_CellText {Te:TE} (c_i_CellOk:C_i_CellOk Te) (c_i_Decode:C_i_Decode Te):C_i_CellText (RF Te x_i_CellText):=by
 intro c
 refine X0 x_i_CellText.eq_1 ?_
 refine C0 (c_i_CellOk c) ?_
 cases g:c.ok
 ·have e:c.text=(⟨#[]⟩,false):=by rw [CellV.text,g]; rfl
  exact F1 e
 ·have e:c.text=decode c.Tag c.B:=by rw [CellV.text,g]; rfl
  refine G1 e ?_
  exact D1 (c_i_Decode c.Tag c.B (by have:=CellV.ok_len g; omega)) e
def x_i_SameText:FnX:=⟨28,[.tmp 4],
  .q [.v 2 0,.v 3 1,.F 4]
 (.q [.L 10 2 2,.c 11 104 [10],.m 9 11,.e 12 9 0,.e 13 9 1,.m 5 12,.m 6 13]
 (.q [.L 15 2 3,.c 16 104 [15],.m 14 16,.e 17 14 0,.e 18 14 1,.m 7 17,.m 8 18]
 (.q [.m 19 6,.m 20 19,.y 20 (.m 21 8),.a 22 20 21,.m 23 22,.y 23 (.m 24 5),.y 23 (.m 25 7),.y 23 (.b 26 .eql 24 25),.a 27 23 26,.m 4 27]
 .ret)))⟩
theorem r_i_SameText {Te:TE} (c_i_CellText:C_i_CellText Te):C_i_SameText (RF Te x_i_SameText):=by
 intro a c
 refine run0 ?_
 simp -implicitDefEqProofs (maxSteps:=1000000) only [x_i_SameText,go_sem,sameText]
 repeat refine ⟨sc,?_⟩
 try exact sf
 refine C0 (c_i_CellText a) ?_
 refine C0 (c_i_CellText c) ?_
 cases g1:a.text.2
 ·exact F1 g1
 ·cases g2:c.text.2
  ·exact F2 g1 g2
  ·try simp -implicitDefEqProofs (maxSteps:=1000000) only [go_sem,g1,g2,bytes_beq]
   repeat refine ⟨sc,?_⟩
   try exact sf
def x_s_CellOk:FnX:=⟨12,[.tmp 2],
  .q [.v 1 0,.F 2]
 (.q [.f 3 1 0,.l 4 3,.c 5 231 [4],.m 6 5,.y 6 (.f 7 1 1),.y 6 (.l 8 7),.y 6 (.n 9 8),.y 6 (.B 10 .leq 9 20),.a 11 6 10,.m 2 11]
 .ret)⟩
theorem r_s_CellOk {Te:TE} (c_s_l5Cs:C_s_l5Cs Te):C_s_CellOk (RF Te x_s_CellOk):=by
 intro c
 refine run0 ?_
 simp -implicitDefEqProofs (maxSteps:=1000000) only [x_s_CellOk,go_sem,CellV.ok]
 repeat refine ⟨sc,?_⟩
 try exact sf
 refine C0 (c_s_l5Cs _) ?_
 cases g:win c.Tag 0 5
 ·exact F1 g
 ·exact F1 g
def x_s_CellText:FnX:=⟨14,[.tmp 2,.tmp 3],
  .q [.v 1 0,.op 2 (.mv (.k (.one (.pv (.string ⟨#[]⟩))))),.F 3]
 (.seq (.q [.L 4 2 1,.c 5 215 [4],.N 6 5]
 (.c 6 (.q [.op 2 (.mv (.k (.one (.pv (.string ⟨#[]⟩))))),.F 3]
 .ret)))
 (.q [.f 7 1 0,.l 8 7,.f 9 1 1,.l 10 9,.c 11 217 [8,10],.e 12 11 0,.e 13 11 1,.m 2 12,.m 3 13]
 .ret))⟩
theorem r_s_CellText {Te:TE} (c_s_CellOk:C_s_CellOk Te) (c_s_Decode:C_s_Decode Te):C_s_CellText (RF Te x_s_CellText):=by
 intro c
 refine X0 x_s_CellText.eq_1 ?_
 refine C0 (c_s_CellOk c) ?_
 cases g:c.ok
 ·have e:c.text=(⟨#[]⟩,false):=by rw [CellV.text,g]; rfl
  exact F1 e
 ·have e:c.text=decode c.Tag c.B:=by rw [CellV.text,g]; rfl
  refine G1 e ?_
  exact D1 (c_s_Decode c.Tag c.B (by have:=CellV.ok_len g; omega)) e
def x_s_SameText:FnX:=⟨28,[.tmp 4],
  .q [.v 2 0,.v 3 1,.F 4]
 (.q [.L 10 2 2,.c 11 178 [10],.m 9 11,.e 12 9 0,.e 13 9 1,.m 5 12,.m 6 13]
 (.q [.L 15 2 3,.c 16 178 [15],.m 14 16,.e 17 14 0,.e 18 14 1,.m 7 17,.m 8 18]
 (.q [.m 19 6,.m 20 19,.y 20 (.m 21 8),.a 22 20 21,.m 23 22,.y 23 (.m 24 5),.y 23 (.m 25 7),.y 23 (.b 26 .eql 24 25),.a 27 23 26,.m 4 27]
 .ret)))⟩
theorem r_s_SameText {Te:TE} (c_s_CellText:C_s_CellText Te):C_s_SameText (RF Te x_s_SameText):=by
 intro a c
 refine run0 ?_
 simp -implicitDefEqProofs (maxSteps:=1000000) only [x_s_SameText,go_sem,sameText]
 repeat refine ⟨sc,?_⟩
 try exact sf
 refine C0 (c_s_CellText a) ?_
 refine C0 (c_s_CellText c) ?_
 cases g1:a.text.2
 ·exact F1 g1
 ·cases g2:c.text.2
  ·exact F2 g1 g2
  ·try simp -implicitDefEqProofs (maxSteps:=1000000) only [go_sem,g1,g2,bytes_beq]
   repeat refine ⟨sc,?_⟩
   try exact sf
def x_i_sameCell:FnX:=⟨19,[.tmp 4],
  .q [.v 2 0,.v 3 1,.F 4]
 (.q [.f 5 2 0,.l 6 5,.f 7 3 0,.l 8 7,.b 9 .eql 6 8,.m 10 9,.y 10 (.f 11 2 1),.y 10 (.l 12 11),.y 10 (.op 13 (.conv .b2s (.t 12))),.y 10 (.f 14 3 1),.y 10 (.l 15 14),.y 10 (.op 16 (.conv .b2s (.t 15))),.y 10 (.b 17 .eql 13 16),.a 18 10 17,.m 4 18]
 .ret)⟩
theorem r_i_sameCell {Te:TE}:C_i_sameCell (RF Te x_i_sameCell):=by
 intro a c
 refine run0 ?_
 cases g:(a.Tag==c.Tag)
 ·simp -implicitDefEqProofs (maxSteps:=1000000) only [x_i_sameCell,go_sem,g]
  repeat refine ⟨sc,?_⟩
  try exact sf
 ·have ea:=areBytes_uR a.B
  have ec:=areBytes_uR c.B
  have fa:=bytesOf_uR a.B
  have fc:=bytesOf_uR c.B
  simp -implicitDefEqProofs (maxSteps:=1000000) only [x_i_sameCell,go_sem,g,ea,ec,fa,fc,bytes_beq,bytes_lists]
  repeat refine ⟨sc,?_⟩
  try exact sf
def x_s_l9None:FnX:=⟨12,[.tmp 2],
  .q [.v 1 0,.F 2]
 (.q [.f 3 1 0,.l 4 3,.B 5 .eql 4 0,.m 6 5,.y 6 (.f 7 1 1),.y 6 (.l 8 7),.y 6 (.n 9 8),.y 6 (.B 10 .eql 9 0),.a 11 6 10,.m 2 11]
 .ret)⟩
theorem r_s_l9None {Te:TE}:C_s_l9None (RF Te x_s_l9None):=by
 intro c
 refine run0 ?_
 cases g:(c.Tag==0)
 ·simp -implicitDefEqProofs (maxSteps:=1000000) only [x_s_l9None,go_sem,CellV.no,g]
  repeat refine ⟨sc,?_⟩
  try exact sf
 ·simp -implicitDefEqProofs (maxSteps:=1000000) only [x_s_l9None,go_sem,CellV.no,g,none_len]
  repeat refine ⟨sc,?_⟩
  try exact sf
def x_i_NameOk:FnX:=⟨27,[.tmp 2],
  .q [.F 2]
 (.seq (.q [.i 3 0]
 (.block 0 (.loop [0,3] (.seq (.q [.m 4 3,.m 5 0,.op 6 (.slen (.t 5)),.b 7 .lss 4 6]
 (.cond 7 .skip (.exit 0)))
 (.seq (.block 1 (.q [.m 10 0,.m 11 3,.op 12 (.sidx (.t 10) (.t 11)),.op 13 (.conv (.int .i64) (.t 12)),.op 14 (.call 57 [0,0,0] [(.t 13),(.i 97),(.i 122)]),.N 15 14,.m 16 15,.y 16 (.m 17 0),.y 16 (.m 18 3),.y 16 (.op 19 (.sidx (.t 17) (.t 18))),.y 16 (.op 20 (.conv (.int .i64) (.t 19))),.y 16 (.op 21 (.call 57 [0,0,0] [(.t 20),(.i 48),(.i 57)])),.y 16 (.N 22 21),.a 23 16 22]
 (.c 23 (.q [.F 2]
 .ret))))
 (.reg [.m 8 3,.B 9 .add 8 1,.m 3 9]))))))
 (.norm [0] (.q [.m 24 0,.op 25 (.slen (.t 24)),.op 26 (.call 57 [0,0,0] [(.t 25),(.i 1),(.i 6)]),.m 2 26]
 .ret)))⟩
theorem r_i_NameOk {Te:TE} (c_i_within:C_i_within Te):C_i_NameOk (RF Te x_i_NameOk):=by
 intro s h
 refine run0 ?_
 have hsz:s.data.toList.length=s.size:=by rw [Array.length_toList]; rfl
 simp -implicitDefEqProofs (maxSteps:=1000000) only [x_i_NameOk,go_sem,nameOk]
 repeat refine ⟨sc,?_⟩
 try exact sf
 refine loop_of (σ:=Nat) (fun i=>⟨[(0,.one (.pv (.string s))),(3,.one (.pv (.int .i64 i)))],[],[(0,[sT s])]⟩) (fun i=>i≤s.size∧(s.data.toList.take i).all nameCh=true) (fun i=>s.size - i) 0 ?_ ⟨Nat.zero_le _,rfl⟩ ?_
 ·simp -implicitDefEqProofs (maxSteps:=1000000) only [go_sem]; rfl
 ·rintro i ⟨hi,hp⟩
  cases q:decide ((i:Int) < (s.size:Int))
  ·have e:=all_end (p:=nameCh) (show s.data.toList.length≤i by simp only [decide_eq_false_iff_not] at q; omega) hp
   refine G1 q ?_
   exact D1 (c_i_within _ _ _) e
  ·have hi':i < s.size:=by simp only [decide_eq_true_eq] at q; omega
   have hi2:i < s.data.toList.length:=by omega
   have q1:decide (i < s.size)=true:=decide_eq_true hi'
   have eg:s.data.toList.getD i 0=s.data.toList[i]:=by rw [List.getD_eq_getElem?_getD,List.getElem?_eq_getElem hi2]; rfl
   have hb:=s.data.toList[i].toNat_lt
   have w1:IntKind.i64.wrap ((s.data.toList[i].toNat:Nat):Int)=(s.data.toList[i].toNat:Nat):=IntWalk.i64_in _ (by omega)
   refine G4 q q1 eg w1 ?_
   refine C0 (c_i_within _ _ _) ?_
   cases g1:win ((s.data.toList[i].toNat:Nat):Int) 97 122
   ·refine G3 q1 eg w1 ?_
    refine C0 (c_i_within _ _ _) ?_
    cases g2:win ((s.data.toList[i].toNat:Nat):Int) 48 57
    ·have e:=all_not (p:=nameCh) hi2 (by simp only [nameCh,g1,g2,Bool.or_false])
     exact F1 e
    ·refine G0 ?_
     refine ⟨i + 1,by rw [IntWalk.i64_in _ (by omega)]; rfl,⟨hi',all_step (p:=nameCh) hi2 hp (by simp only [nameCh,g1,g2,Bool.or_true])⟩,by omega⟩
   ·refine G0 ?_
    refine ⟨i + 1,by rw [IntWalk.i64_in _ (by omega)]; rfl,⟨hi',all_step (p:=nameCh) hi2 hp (by simp only [nameCh,g1,Bool.true_or])⟩,by omega⟩
def x_s_BackRow:FnX:=⟨24,[.cell 2 (some 7)],
  .q [.v 1 0,.op 2 (.alloc [.e,.i 0,.nils 1,.i 0,.nils 1,.i 0,.F])]
 (.q [.L 4 7 1,.c 5 131 [4],.op 3 (.alloc [.e,.i 0,.nils 1,.i 0,.nils 1,.i 0,.F]),.s 100001 7 3 5]
 (.seq (.q [.L 6 7 1,.c 7 174 [6],.N 8 7,.m 9 8,.z 9 (.L 10 7 1),.z 9 (.c 11 177 [10]),.z 9 (.N 12 11),.r 13 9 12]
 (.c 13 (.q [.L 14 7 3,.s 100002 7 2 14]
 .ret)))
 (.seq (.q [.L 15 7 1,.c 16 191 [15]]
 (.c 16 (.q [.f 17 1 0,.l 18 17,.f 19 3 1,.L 20 2 19,.op 21 (.build [.e,.i 0,.nils 1,.i 0,.nils 1,.i 0,.F] [(0,1,(.t 18)),(1,2,(.t 20)),(5,1,(.i 1))]),.s 100003 7 2 21]
 .ret)))
 (.q [.f 22 3 6,⟨none,none,100004,.store 1 (.t 22) .T⟩]
 (.q [.L 23 7 3,.s 100005 7 2 23]
 .ret)))))⟩
theorem r_s_BackRow {Te:TE} (c_s_l9Copy:C_s_l9Copy Te) (c_s_RowOk:C_s_RowOk Te) (c_s_l9New:C_s_l9New Te) (c_s_l9Old:C_s_l9Old Te):C_s_BackRow (RF Te x_s_BackRow):=by
 intro r h
 have hL:=h.len (by decide)
 refine X0 x_s_BackRow.eq_1 ?_
 refine C0 (c_s_l9Copy r hL) ?_
 refine C0 (c_s_RowOk r (h.mono (by decide))) ?_
 cases g1:r.ok
 ·have e:r.back=r:=by rw [RowV.back,g1]; rfl
  exact F1 e
 have h13:=rowOk_13 g1
 refine G0 ?_
 refine C0 (c_s_l9New r h13) ?_
 by_cases g2:r.Has=1
 ·have e:r.back=r:=by rw [RowV.back,g1,g2]; rfl
  have g5:decide (r.Has≠1)=false:=decide_eq_false (by simpa using g2)
  exact F2 g5 e
 have g5:decide (r.Has≠1)=true:=decide_eq_true g2
 refine G1 g5 ?_
 refine C0 (c_s_l9Old r h13) ?_
 by_cases g3:r.Has=2
 ·have e:r.back=⟨r.Key,r.Old,r.New,r.Has,true⟩:=by rw [RowV.back,g1,g3]; rfl
  have g6:decide (r.Has≠2)=false:=decide_eq_false (by simpa using g3)
  exact F2 g6 e
 ·have g4:r.Has=3:=by omega
  have e:r.back=⟨r.Key,r.Old,⟨0,[]⟩,1,false⟩:=by rw [RowV.back,g1,g4]; rfl
  have g6:decide (r.Has≠2)=true:=decide_eq_true g3
  exact F2 g6 e
def x_i_turnedRow:FnX:=⟨16,[.cell 4 (some 7)],
  .q [.v 3 1,.op 4 (.alloc [.e,.i 0,.nils 1,.i 0,.nils 1,.i 0,.F])]
 (.seq (.q [.m 5 0]
 (.block 0 (.q [.B 7 .eql 5 4,.m 6 7]
 (.cond 6 (.q [.L 8 7 3,.c 9 110 [8],.s 100001 7 4 9]
 .ret) (.q [.B 11 .eql 5 6,.m 10 11]
 (.c 10 (.q [.L 12 7 3,.c 13 111 [12],.s 100002 7 4 13]
 .ret)))))))
 (.q [.L 14 7 3,.c 15 112 [14],.s 100003 7 4 15]
 .ret))⟩
theorem r_i_turnedRow {Te:TE} (c_i_CutRow:C_i_CutRow Te) (c_i_BackRow:C_i_BackRow Te) (c_i_FillRow:C_i_FillRow Te):C_i_turnedRow (RF Te x_i_turnedRow):=by
 intro p r h
 refine run0 ?_
 simp -implicitDefEqProofs (maxSteps:=1000000) only [x_i_turnedRow,go_sem,turned]
 repeat refine ⟨sc,?_⟩
 try exact sf
 cases g4:(p==4)
 ·cases g6:(p==6)
  ·refine G2 g4 g6 ?_
   exact D0 (c_i_FillRow r h)
  ·refine G2 g4 g6 ?_
   exact D0 (c_i_BackRow r h)
 ·refine G1 g4 ?_
  exact D0 (c_i_CutRow r h)
def x_s_l15Turn:FnX:=⟨17,[.cell 4 (some 7)],
  .q [.v 3 1,.op 4 (.alloc [.e,.i 0,.nils 1,.i 0,.nils 1,.i 0,.F])]
 (.seq (.q [.m 5 0]
 (.block 0 (.seq (.q [.B 7 .eql 5 2,.m 6 7]
 (.cond 6 .skip (.reg [.B 8 .eql 5 3,.m 6 8])))
 (.cond 6 (.q [.L 9 7 3,.c 10 144 [9],.s 100001 7 4 10]
 .ret) (.q [.B 12 .eql 5 4,.m 11 12]
 (.c 11 (.q [.L 13 7 3,.c 14 145 [13],.s 100002 7 4 14]
 .ret)))))))
 (.q [.L 15 7 3,.c 16 146 [15],.s 100003 7 4 16]
 .ret))⟩
theorem r_s_l15Turn {Te:TE} (c_s_FillRow:C_s_FillRow Te) (c_s_CutRow:C_s_CutRow Te) (c_s_BackRow:C_s_BackRow Te):C_s_l15Turn (RF Te x_s_l15Turn):=by
 intro p r h hp
 refine run0 ?_
 rcases hp with rfl | rfl | rfl | rfl
 all_goals
  simp -implicitDefEqProofs (maxSteps:=1000000) only [x_s_l15Turn,go_sem,turned]
  repeat refine ⟨sc,?_⟩
  try exact sf
 ·exact D0 (c_s_FillRow r h)
 ·exact D0 (c_s_FillRow r h)
 ·exact D0 (c_s_CutRow r h)
 ·exact D0 (c_s_BackRow r h)
def x_l_szByteSS:FnX:=⟨27,[.tmp 4],
  .q [.i 4 0]
 (.q [.m 6 1,.m 7 0,.n 8 7,.b 9 .sub 6 8,.m 1 9]
 (.seq (.q [.m 10 1,.B 11 .lss 10 0]
 (.c 11 (.q [.i 4 (-1)]
 .ret)))
 (.seq (.q [.i 5 0]
 (.block 0 (.loop [0,1,5] (.seq (.q [.m 12 5,.m 13 0,.n 14 13,.b 15 .lss 12 14]
 (.cond 15 .skip (.exit 0)))
 (.seq (.block 1 (.q [.m 18 0,.m 19 5,.x 20 1 18 19,.l 21 20,.m 22 1,.c 23 126 [21,22],.m 1 23]
 (.q [.m 24 1,.B 25 .lss 24 0]
 (.c 25 (.q [.i 4 (-1)]
 .ret)))))
 (.reg [.m 16 5,.B 17 .add 16 1,.m 5 17]))))))
 (.norm [1] (.q [.m 26 1,.m 4 26]
 .ret)))))⟩
theorem r_l_szByteSS {Te:TE} (c_l_szByteS:C_l_szByteS Te):C_l_szByteSS (RF Te x_l_szByteSS):=by
 intro l k hk hl hs
 refine run0 ?_
 simp -implicitDefEqProofs (maxSteps:=1000000) (disch:=omega) only [x_l_szByteSS,go_sem,IntWalk.i64_in]
 refine ⟨fun h=>?_,fun h=>?_⟩
 ·simp only [decide_eq_true_eq] at h
  simp only [szSl,szAll,if_pos h]
 ·simp only [decide_eq_false_iff_not] at h
  refine loop_of (σ:=Nat×Int) (fun x=>⟨[(0,.one (.ro 1 (l.map (fun y=>[slT false 1 uR y])))),(1,.one (.pv (.int .i64 x.2))),(5,.one (.pv (.int .i64 x.1)))],[],[(0,[slT false 1 (fun y=>[slT false 1 uR y]) l]),(1,[iT k])]⟩) (fun x=>x.1≤l.length∧0≤x.2∧x.2≤k∧szSl (fun y k=>left (k - y.length)) l k=szAll ((l.drop x.1).map (fun y k=>left (k - y.length))) x.2) (fun x=>l.length - x.1) (0,k - l.length) ?_ ⟨Nat.zero_le _,by omega,by omega,by simp only [szSl,szAll,if_neg h,List.drop_zero]⟩ ?_
  ·simp -implicitDefEqProofs (maxSteps:=1000000) only [go_sem]; rfl
  ·rintro ⟨i,c⟩ ⟨hi,h0,h1,he⟩
   simp only at hi h0 h1 he
   simp -implicitDefEqProofs (maxSteps:=1000000) only [go_sem]
   refine ⟨fun h=>?_,fun h=>?_⟩
   ·have hi':i < l.length:=by simp only [decide_eq_true_eq] at h; omega
    have hsz:=hs l[i] (List.getElem_mem hi')
    have hsn:left (c - (l[i].length:Nat))≤c:=(fun _=>Sane.left _) l[i] c h0
    rw [List.drop_eq_getElem_cons hi'] at he
    simp -implicitDefEqProofs (maxSteps:=1000000) (disch:=omega) only [go_sem,List.getElem?_eq_getElem hi',IntWalk.i64_in]
    refine .of (c_l_szByteS _ _ hsz ⟨h0,by omega⟩) ?_
    simp -implicitDefEqProofs (maxSteps:=1000000) only [go_sem]
    refine ⟨fun h2=>?_,fun h2=>?_⟩
    ·simp only [decide_eq_true_eq] at h2
     rw [he]
     simp only [List.map_cons,szAll,if_pos h2]
    ·simp only [decide_eq_false_iff_not] at h2
     refine ⟨(i + 1,left (c - (l[i].length:Nat))),by rw [IntWalk.i64_in _ (by omega)]; rfl,⟨hi',by omega,by simp only; omega,?_⟩,by simp only; omega⟩
     rw [he]
     simp only [List.map_cons,szAll,if_neg h2]
   ·have hle:l.length≤i:=by simp only [decide_eq_false_iff_not] at h; omega
    rw [List.drop_of_length_le hle] at he
    simp only [szAll,List.map_nil] at he
    rw [he]
def x_l_toByteSS:FnX:=⟨23,[.tmp 2],
  .q [.op 2 (.mv (.k (.one (.nils 1))))]
 (.q [.m 5 0,.n 6 5,.op 7 (.mks 1 24 [.sl true 1 () []] (.t 6)),.m 3 7]
 (.seq (.q [.i 4 0]
 (.block 0 (.loop [0,3,4] (.seq (.q [.m 8 4,.m 9 0,.n 10 9,.b 11 .lss 8 10]
 (.cond 11 .skip (.exit 0)))
 (.seq (.block 1 (.reg [.m 14 3,.m 15 4,.m 16 0,.m 17 4,.x 18 1 16 17,.l 19 18,.c 20 148 [19],.x 21 1 14 15,.s 100001 1 21 20]))
 (.reg [.m 12 4,.B 13 .add 12 1,.m 4 13]))))))
 (.norm [3] (.q [.m 22 3,.m 2 22]
 .ret))))⟩
theorem r_l_toByteSS {Te:TE} (c_l_toByteS:C_l_toByteS Te):C_l_toByteSS (RF Te x_l_toByteSS):=by
 intro l hl
 refine run0 ?_
 have hl1:=hl.1
 simp -implicitDefEqProofs (maxSteps:=1000000) (disch:=omega) only [x_l_toByteSS,go_sem,IntWalk.i64_in]
 refine ⟨⟨by simp only [decide_eq_true_eq]; omega,by simp only [decide_eq_true_eq]; omega⟩,?_⟩
 refine loop_of (σ:=Nat) (fun i=>⟨[(0,.one (.ro 1 (l.map (fun y=>[slT false 1 uR y])))),(3,.one (.rf 24 0 [] 1 0 l.length)),(4,.one (.pv (.int .i64 i)))],[],
  [(0,[slT false 1 (fun y=>[slT false 1 uR y]) l]),(24,[.sl true 1 () ((l.take i).map (fun y=>[slT true 1 uR y])++List.replicate (l.length - i) [.sl true 1 () []])])]⟩) (fun i=>i≤l.length) (fun i=>l.length - i) 0 ?_ (Nat.zero_le _) ?_
 ·simp -implicitDefEqProofs (maxSteps:=1000000) only [go_sem]; rfl
 ·intro i hi
  simp -implicitDefEqProofs (maxSteps:=1000000) only [go_sem]
  refine ⟨fun h=>?_,fun h=>?_⟩
  ·have hi':i < l.length:=by simp only [decide_eq_true_eq] at h; omega
   simp -implicitDefEqProofs (maxSteps:=1000000) only [go_sem,List.getElem?_eq_getElem hi',fill_len (fun y=>[slT true 1 uR y]) l [.sl true 1 () []] hi,storeAp,setCells,List.getD_eq_getElem?_getD,fill_get (fun y=>[slT true 1 uR y]) l [.sl true 1 () []] hi']
   refine .of (c_l_toByteS _ (Nat.le_trans (hl.2 _ (List.getElem_mem hi')) (by decide))) ?_
   simp -implicitDefEqProofs (maxSteps:=1000000) only [go_sem,fill_len (fun y=>[slT true 1 uR y]) l [.sl true 1 () []] hi,storeAp,setCells,List.getD_eq_getElem?_getD,fill_get (fun y=>[slT true 1 uR y]) l [.sl true 1 () []] hi']
   repeat (first | refine ⟨by decide,?_⟩ | refine ⟨by simpa using hi',?_⟩)
   refine ⟨i + 1,?_,hi',by omega⟩
   rw [← fill_set (fun y=>[slT true 1 uR y]) l [.sl true 1 () []] hi',IntWalk.i64_in _ (by omega)]
   rfl
  ·have:i=l.length:=by simp only [decide_eq_false_iff_not] at h; omega
   subst this
   simp -implicitDefEqProofs (maxSteps:=1000000) only [go_sem,fill_len (fun y=>[slT true 1 uR y]) l [.sl true 1 () []] hi,fill_end]
   refine ⟨by simp,?_⟩
   simp [take_map]
def x_l_eqByteSS:FnX:=⟨27,[.tmp 4],
  .q [.F 4]
 (.seq (.q [.m 6 0,.n 7 6,.m 8 1,.n 9 8,.b 10 .neq 7 9]
 (.c 10 (.q [.F 4]
 .ret)))
 (.seq (.q [.i 5 0]
 (.block 0 (.loop [0,1,5] (.seq (.q [.m 11 5,.m 12 0,.n 13 12,.b 14 .lss 11 13]
 (.cond 14 .skip (.exit 0)))
 (.seq (.block 1 (.seq (.draw [.m 17 0,.m 18 5,.x 19 1 17 18,.l 20 19,.m 21 1,.m 22 5,.x 23 1 21 22,.l 24 23,.c 25 167 [20,24],.N 26 25] [[],[],[0,1],[2],[],[],[4,5],[6],[3,7],[8]])
 (.c 26 (.q [.F 4]
 .ret))))
 (.reg [.m 15 5,.B 16 .add 15 1,.m 5 16]))))))
 (.norm [] (.q [.T 4]
 .ret))))⟩
theorem r_l_eqByteSS {Te:TE} (c_l_eqByteS:C_l_eqByteS Te):C_l_eqByteSS (RF Te x_l_eqByteSS):=by
 intro l m hl
 refine run0 ?_
 have hl1:=hl.1
 simp -implicitDefEqProofs (maxSteps:=1000000) (disch:=omega) only [x_l_eqByteSS,go_sem,IntWalk.i64_in]
 refine ⟨fun h=>?_,fun h=>?_⟩
 ·have:l≠m:=fun e=>by simp [e] at h
  simp [this]
 ·have hlen:l.length=m.length:=by simp at h; omega
  refine loop_of (σ:=Nat) (fun i=>⟨[(0,.one (.ro 1 (l.map (fun y=>[slT false 1 uR y])))),(1,.one (.ro 1 (m.map (fun y=>[slT false 1 uR y])))),(5,.one (.pv (.int .i64 i)))],[],[(0,[slT false 1 (fun y=>[slT false 1 uR y]) l]),(1,[slT false 1 (fun y=>[slT false 1 uR y]) m])]⟩) (fun i=>i≤l.length∧l.take i=m.take i) (fun i=>l.length - i) 0 ?_ ⟨Nat.zero_le _,by simp⟩ ?_
  ·simp -implicitDefEqProofs (maxSteps:=1000000) only [go_sem]; rfl
  ·intro i ⟨hi,hs⟩
   simp -implicitDefEqProofs (maxSteps:=1000000) only [go_sem]
   refine ⟨fun h=>?_,fun h=>?_⟩
   ·have hi':i < l.length:=by simp only [decide_eq_true_eq] at h; omega
    have hj':i < m.length:=by omega
    simp -implicitDefEqProofs (maxSteps:=1000000) only [go_sem,List.getElem?_eq_getElem hi',List.getElem?_eq_getElem hj']
    refine .of (c_l_eqByteS _ _ (Nat.le_trans (hl.2 _ (List.getElem_mem hi')) (by decide))) ?_
    simp -implicitDefEqProofs (maxSteps:=1000000) only [go_sem]
    refine ⟨by decide,fun h2=>?_,fun h2=>?_⟩
    ·have:l≠m:=fun e=>by subst e; simp at h2
     simp [this]
    ·refine ⟨i + 1,by rw [IntWalk.i64_in _ (by omega)]; rfl,⟨hi',same_step hi' hj' hs ?_⟩,by omega⟩
     simpa using h2
   ·have hle:l.length≤i:=by simp only [decide_eq_false_iff_not] at h; omega
    have:l=m:=same_end hle (by omega) hs
    simp [this]
def x_l_markText:FnX:=⟨20,[.tmp 2],
  .q [.op 2 (.mv (.k (.one (.pv (.string ⟨#[]⟩)))))]
 (.seq (.q [.m 4 0,.B 5 .leq 4 0]
 (.c 5 (.q [.op 2 (.mv (.k (.one (.pv (.string ⟨#[109,48]⟩)))))]
 .ret)))
 (.q [.op 3 (.mv (.k (.one (.pv (.string ⟨#[]⟩)))))]
 (.seq (.block 0 (.loop [0,3] (.seq (.q [.m 6 0,.B 7 .gtr 6 0]
 (.cond 7 .skip (.exit 0)))
 (.block 1 (.q [.m 8 0,.B 9 .rem 8 10,.op 10 (.bin .add (.i 48) (.t 9)),.op 11 (.conv (.int .u8) (.t 10)),.op 12 (.bslice 1 [(.t 11)]),.op 13 (.conv .b2s (.t 12)),.m 14 3,.b 15 .add 13 14,.m 3 15]
 (.reg [.m 16 0,.B 17 .quo 16 10,.m 0 17]))))))
 (.norm [3] (.q [.m 18 3,.op 19 (.bin .add (.k (.one (.pv (.string ⟨#[109]⟩)))) (.t 18)),.m 2 19]
 .ret)))))⟩
theorem r_l_markText {Te:TE}:C_l_markText (RF Te x_l_markText):=by
 intro k hk
 refine run0 ?_
 simp -implicitDefEqProofs (maxSteps:=1000000) only [x_l_markText,go_sem]
 refine ⟨fun h=>?_,fun h=>?_⟩
 ·simp only [decide_eq_true_eq] at h
  simp only [mkS,if_pos h]
 ·simp only [decide_eq_false_iff_not] at h
  refine loop_of (σ:=Nat×ByteArray) (fun x=>⟨[(0,.one (.pv (.int .i64 x.1))),(3,.one (.pv (.string x.2)))],[],[(0,[iT k])]⟩) (fun x=>x.2.size≤15∧x.1 * 10 ^ x.2.size≤2 ^ 48∧digs k.toNat ⟨#[]⟩=digs x.1 x.2) (fun x=>x.1) (k.toNat,⟨#[]⟩) ?_ ?_ ?_
  ·simp -implicitDefEqProofs (maxSteps:=1000000) only [go_sem]
   rw [Int.toNat_of_nonneg hk.1]
  ·exact ⟨by simp [ByteArray.size],by simp [ByteArray.size]; omega,rfl⟩
  ·rintro ⟨j,s⟩ ⟨h1,h2,h3⟩
   simp only at h1 h2 h3
   simp -implicitDefEqProofs (maxSteps:=1000000) only [go_sem]
   have hj:j≤2 ^ 48:=Nat.le_trans (Nat.le_mul_of_pos_right j (Nat.pow_pos (by decide))) h2
   refine ⟨fun h0=>?_,fun h0=>?_⟩
   ·have h0':0 < j:=by simp only [decide_eq_true_eq] at h0; omega
    have hs:s.size≤14:=by
     by_cases h15:s.size≤14
     ·exact h15
     ·have e1:=Nat.pow_le_pow_right (n:=10) (by decide) (show 15≤s.size by omega)
      have e2:=Nat.le_mul_of_pos_left (10 ^ s.size) h0'
      omega
    have em:(j:Int).tmod 10=((j % 10:Nat):Int):=by rw [Int.tmod_eq_emod_of_nonneg (by omega)]; rfl
    have ed:(j:Int).tdiv 10=((j / 10:Nat):Int):=by rw [Int.tdiv_eq_ediv_of_nonneg (by omega)]; rfl
    have hlt:j % 10 < 10:=Nat.mod_lt _ (by decide)
    rw [em,ed,IntWalk.i64_in _ (by omega),IntWalk.i64_in _ (by omega),IntWalk.u8_in _ (by omega)]
    refine ⟨rfl,?_⟩
    have e5:bytesOf [[(Tr.pv (Value.int IntKind.u8 (48 + ((j % 10:Nat):Int))):T)]]=[UInt8.ofNat (48 + j % 10)]:=by
     simp only [bytesOf,List.map_cons,List.map_nil,List.headD_cons,byteOf]
     rw [show (48 + ((j % 10:Nat):Int)).toNat=48 + j % 10 by omega]
    rw [e5,show decide ([UInt8.ofNat (48 + j % 10)].toArray.size + s.size≤4294967296)=true by simp; omega]
    simp only [cond_true,onSome]
    have esz:((⟨[UInt8.ofNat (48 + j % 10)].toArray⟩:ByteArray)++s).size=s.size + 1:=by rw [ByteArray.size_append]; show 1 + s.size=s.size + 1; omega
    refine ⟨(j / 10,⟨[UInt8.ofNat (48 + j % 10)].toArray⟩++s),rfl,⟨by simp only [esz]; omega,?_,?_⟩,Nat.div_lt_self h0' (by decide)⟩
    ·simp only [esz]
     have e6:j / 10 * 10 ^ (s.size + 1)=(j / 10 * 10) * 10 ^ s.size:=by rw [Nat.pow_succ,Nat.mul_assoc,Nat.mul_comm 10]
     rw [e6]
     exact Nat.le_trans (Nat.mul_le_mul_right _ (by omega)) h2
    ·rw [h3,digs,dif_neg (by omega)]
   ·have h0':j=0:=by simp only [decide_eq_false_iff_not] at h0; omega
    subst h0'
    rw [show decide (#[(109:UInt8)].size + s.size≤4294967296)=true by simp; omega]
    simp only [cond_true,onSome]
    have e0:digs 0 s=s:=by rw [digs,dif_pos rfl]
    rw [e0] at h3
    simp only [mkS,if_neg h,h3]
def x_s_l18Back:FnX:=⟨13,[.cell 4 (some 8)],
  .q [.v 2 0,.op 4 (.alloc [.i 0,.i 0,.i 0,.i 0,.e,.e,.i 0,.i 0])]
 (.q [.m 5 1,.f 6 2 2,.l 7 6,.f 8 2 1,.l 9 8,.f 10 2 3,.l 11 10,.op 12 (.build [.i 0,.i 0,.i 0,.i 0,.e,.e,.i 0,.i 0] [(0,1,(.t 5)),(1,1,(.t 7)),(2,1,(.t 9)),(3,1,(.t 11))]),.s 100001 8 4 12]
 .ret)⟩
theorem r_s_l18Back {Te:TE}:C_s_l18Back (RF Te x_s_l18Back):=by
 intro m k
 refine X0 x_s_l18Back.eq_1 ?_
 try rfl
end Go.X

