/- Texts: CVf_2 CVv CT CR_2 CVm CQ CVy CVx CVy_3 CV. -/
import Derived.Test.YtmmjaijeeeilcaaGreatDoorS04
set_option linter.unusedVariables false
set_option linter.unusedSimpArgs false
namespace Go.X
set_option maxRecDepth 100000
set_option maxHeartbeats 8000000
def x_i_TabOk:FnX:=⟨85,[.tmp 2],
  .q [.v 1 0,.F 2]
 (.seq (.q [.f 7 1 0,.l 8 7,.n 9 8,.i 10 0]
 (.block 0 (.loop [1,8,9,10] (.q [.b 11 .lss 10 9]
 (.seq (.cond 11 .skip (.exit 0))
 (.seq (.block 1 (.q [.m 12 10,.x 13 7 8 10,.L 14 7 13,.op 4 (.alloc [.e,.i 0,.nils 1,.i 0,.nils 1,.i 0,.F]),.m 3 12,.s 100001 7 4 14]
 (.seq (.draw [.L 15 7 4,.c 16 253 [15],.N 17 16,.m 18 17,.z 18 (.m 19 3),.z 18 (.B 20 .gtr 19 0),.z 18 (.m 21 20),.y 21 (.f 22 1 0),.y 21 (.l 23 22),.y 21 (.m 24 3),.y 21 (.B 25 .sub 24 1),.y 21 (.x 26 7 23 25),.y 21 (.f 27 26 0),.y 21 (.l 28 27),.y 21 (.f 29 4 0),.y 21 (.l 30 29),.y 21 (.b 31 .geq 28 30),.z 18 (.a 32 21 31),.r 33 18 32] [[],[0],[1],[2,1],[3],[4,3],[5,3,3],[6],[7,6],[6],[9,6],[8,10,6],[11,6],[12,6],[6],[14,6],[13,15,6],[6,16,3],[3,17]])
 (.c 33 (.q [.F 2]
 .ret)))))
 (.reg [.B 34 .add 10 1,.m 10 34])))))))
 (.norm [1] (.seq (.q [.f 35 1 2,.l 36 35,.n 37 36,.i 38 0]
 (.block 2 (.loop [1,36,37,38] (.q [.b 39 .lss 38 37]
 (.seq (.cond 39 .skip (.exit 2))
 (.seq (.block 3 (.q [.m 40 38,.x 41 3 36 38,.L 42 3 41,.op 6 (.alloc [.i 0,.i 0,.i 0]),.m 5 40,.s 100002 3 6 42]
 (.seq (.draw [.f 43 6 0,.l 44 43,.op 45 (.call 90 [0,0,0] [(.t 44),(.i 1),(.i 9)]),.N 46 45,.m 47 46,.z 47 (.f 48 6 1),.z 47 (.l 49 48),.z 47 (.c 50 247 [49]),.z 47 (.N 51 50),.r 52 47 51,.m 53 52,.z 53 (.f 54 6 2),.z 53 (.l 55 54),.z 53 (.op 56 (.call 90 [0,0,0] [(.t 55),(.i 0),(.i 6)])),.z 53 (.N 57 56),.r 58 53 57,.m 59 58,.z 59 (.m 60 5),.z 59 (.B 61 .gtr 60 0),.z 59 (.m 62 61),.y 62 (.f 63 1 2),.y 62 (.l 64 63),.y 62 (.m 65 5),.y 62 (.B 66 .sub 65 1),.y 62 (.x 67 3 64 66),.y 62 (.f 68 67 0),.y 62 (.l 69 68),.y 62 (.f 70 6 0),.y 62 (.l 71 70),.y 62 (.b 72 .geq 69 71),.z 59 (.a 73 62 72),.r 74 59 73] [[],[0],[1],[2],[3,2],[4],[5,4],[6,4,4],[7,4],[4,8],[9,7],[10],[11,10],[12,10,10],[13,10],[10,14],[15,13],[16],[17,16],[18,16,16],[19],[20,19],[19],[22,19],[21,23,19],[24,19],[25,19],[19],[27,19],[26,28,19],[19,29,16],[16,30]])
 (.c 74 (.q [.F 2]
 .ret)))))
 (.reg [.B 75 .add 38 1,.m 38 75])))))))
 (.norm [1] (.q [.f 76 1 0,.l 77 76,.n 78 77,.B 79 .leq 78 8,.m 80 79,.y 80 (.f 81 1 1),.y 80 (.l 82 81),.y 80 (.op 83 (.call 90 [0,0,0] [(.t 82),(.i 0),(.i 7)])),.a 84 80 83,.m 2 84]
 .ret)))))⟩
theorem r_i_TabOk {Te:TE} (c_i_RowOk:C_i_RowOk Te) (c_i_within:C_i_within Te) (c_i_isWord:C_i_isWord Te):C_i_TabOk (RF Te x_i_TabOk):=by
 intro t h
 obtain ⟨⟨hl,hR⟩,hM⟩:=h
 refine X0 x_i_TabOk.eq_1 ?_
 refine loop_of (σ:=Nat) (fun i=>⟨[(1,.bp 1 0),(8,.one (.ro 7 (t.Rows.map (RowV.enc false)))),(9,.one (.pv (.int .i64 t.Rows.length))),(10,.one (.pv (.int .i64 i)))],[(1,[.ro 7 (t.Rows.map (RowV.enc false)),.pv (.int .i64 t.Phase),.ro 3 (t.Marks.map MarkV.row)])],[(0,t.enc false)]⟩) (fun i=>i≤t.Rows.length∧∀ j,j < i→rowGood t.Rows j=true) (fun i=>t.Rows.length - i) 0 ?_ ⟨Nat.zero_le _,fun j hj=>absurd hj (Nat.not_lt_zero _)⟩ ?_
 ·simp -implicitDefEqProofs (maxSteps:=1000000) only [go_sem]
  try rfl
 ·rintro i ⟨hi,hp⟩
  cases q:decide ((i:Int) < (t.Rows.length:Int))
  ·have eR:=rng_end (f:=rowGood t.Rows) (show t.Rows.length≤i by simp only [decide_eq_false_iff_not] at q; omega) hp
   refine G1 q ?_
   refine loop_of (σ:=Nat) (fun i=>⟨[(1,.bp 1 0),(36,.one (.ro 3 (t.Marks.map MarkV.row))),(37,.one (.pv (.int .i64 t.Marks.length))),(38,.one (.pv (.int .i64 i)))],[(1,[.ro 7 (t.Rows.map (RowV.enc false)),.pv (.int .i64 t.Phase),.ro 3 (t.Marks.map MarkV.row)])],[(0,t.enc false)]⟩) (fun i=>i≤t.Marks.length∧∀ j,j < i→markGood t.Marks j=true) (fun i=>t.Marks.length - i) 0 ?_ ⟨Nat.zero_le _,fun j hj=>absurd hj (Nat.not_lt_zero _)⟩ ?_
   ·simp -implicitDefEqProofs (maxSteps:=1000000) only [go_sem]
    try rfl
   ·rintro i ⟨hi,hp⟩
    cases q:decide ((i:Int) < (t.Marks.length:Int))
    ·have eM:=rng_end (f:=markGood t.Marks) (show t.Marks.length≤i by simp only [decide_eq_false_iff_not] at q; omega) hp
     refine G1 q ?_
     cases gl:decide ((t.Rows.length:Int)≤8)
     ·have e:t.ok=false:=by simp only [TabV.ok,gl,Bool.and_false,Bool.false_and]
      exact F2 gl e
     ·have e:t.ok=win t.Phase 0 7:=by simp only [TabV.ok,eR,eM,gl,Bool.true_and]
      refine G1 gl ?_
      exact D1 (c_i_within _ _ _) e
    ·have k1:i < t.Marks.length:=by simp only [decide_eq_true_eq] at q; omega
     cases i with
     | zero =>
      have z:decide (((0:Nat):Int) > 0)=false:=rfl
      have good0:=markGood_zero k1
      refine G3 q (List.getElem?_eq_getElem k1) z ?_
      refine C0 (c_i_within _ _ _) ?_
      cases a1:win t.Marks[0].Who 1 9
      ·have g:t.Marks[0].ok=false:=by simp only [MarkV.ok,a1,Bool.false_and]
       have e:t.ok=false:=by simp only [TabV.ok,rng_not k1 (good0.trans g),Bool.and_false,Bool.false_and]
       exact F1 e
      refine G0 ?_
      refine C0 (c_i_isWord _) ?_
      cases a2:win t.Marks[0].Seq 0 65535
      ·have g:t.Marks[0].ok=false:=by simp only [MarkV.ok,a2,Bool.and_false,Bool.false_and]
       have e:t.ok=false:=by simp only [TabV.ok,rng_not k1 (good0.trans g),Bool.and_false,Bool.false_and]
       exact F1 e
      refine G0 ?_
      refine C0 (c_i_within _ _ _) ?_
      cases a3:win t.Marks[0].Code 0 6
      ·have g:t.Marks[0].ok=false:=by simp only [MarkV.ok,a3,Bool.and_false]
       have e:t.ok=false:=by simp only [TabV.ok,rng_not k1 (good0.trans g),Bool.and_false,Bool.false_and]
       exact F1 e
      have g:t.Marks[0].ok=true:=by simp only [MarkV.ok,a1,a2,a3,Bool.and_true]
      refine G1 z ?_
      refine ⟨1,by rw [IntWalk.i64_in _ (by omega)]; rfl,⟨k1,rng_step hp (good0.trans g)⟩,by omega⟩
     | succ j =>
      have k0:j < t.Marks.length:=by omega
      have z:decide (((j + 1:Nat):Int) > 0)=true:=decide_eq_true (by omega)
      have ew:IntKind.i64.wrap (((j + 1:Nat):Int) - 1)=(j:Int):=by rw [IntWalk.i64_in _ (by omega)]; omega
      have good1:=markGood_succ k1
      refine G3 q (List.getElem?_eq_getElem k1) z ?_
      refine C0 (c_i_within _ _ _) ?_
      cases a1:win t.Marks[j + 1].Who 1 9
      ·have g:t.Marks[j + 1].ok=false:=by simp only [MarkV.ok,a1,Bool.false_and]
       have gg:markGood t.Marks (j + 1)=false:=by rw [good1,g,Bool.false_and]
       have e:t.ok=false:=by simp only [TabV.ok,rng_not k1 gg,Bool.and_false,Bool.false_and]
       exact F1 e
      refine G0 ?_
      refine C0 (c_i_isWord _) ?_
      cases a2:win t.Marks[j + 1].Seq 0 65535
      ·have g:t.Marks[j + 1].ok=false:=by simp only [MarkV.ok,a2,Bool.and_false,Bool.false_and]
       have gg:markGood t.Marks (j + 1)=false:=by rw [good1,g,Bool.false_and]
       have e:t.ok=false:=by simp only [TabV.ok,rng_not k1 gg,Bool.and_false,Bool.false_and]
       exact F1 e
      refine G0 ?_
      refine C0 (c_i_within _ _ _) ?_
      cases a3:win t.Marks[j + 1].Code 0 6
      ·have g:t.Marks[j + 1].ok=false:=by simp only [MarkV.ok,a3,Bool.and_false]
       have gg:markGood t.Marks (j + 1)=false:=by rw [good1,g,Bool.false_and]
       have e:t.ok=false:=by simp only [TabV.ok,rng_not k1 gg,Bool.and_false,Bool.false_and]
       exact F1 e
      have g:t.Marks[j + 1].ok=true:=by simp only [MarkV.ok,a1,a2,a3,Bool.and_true]
      cases g2:decide (t.Marks[j].Who≥t.Marks[j + 1].Who)
      ·have gg:markGood t.Marks (j + 1)=true:=by rw [good1,g,g2]; rfl
       try simp -implicitDefEqProofs (maxSteps:=1000000) only [go_sem,z,ew,List.getElem?_eq_getElem k0,List.getElem?_eq_getElem k1,g2]
       repeat refine ⟨sc,?_⟩
       try exact sf
       refine ⟨j + 2,by rw [IntWalk.i64_in _ (by omega)]; rfl,⟨k1,rng_step hp gg⟩,by omega⟩
      ·have gg:markGood t.Marks (j + 1)=false:=by rw [good1,g2]; simp only [Bool.not_true,Bool.and_false]
       have e:t.ok=false:=by simp only [TabV.ok,rng_not k1 gg,Bool.and_false,Bool.false_and]
       try simp -implicitDefEqProofs (maxSteps:=1000000) only [go_sem,z,ew,List.getElem?_eq_getElem k0,List.getElem?_eq_getElem k1,g2,e]
       repeat refine ⟨sc,?_⟩
       try exact sf
  ·have k1:i < t.Rows.length:=by simp only [decide_eq_true_eq] at q; omega
   cases i with
   | zero =>
    have z:decide (((0:Nat):Int) > 0)=false:=rfl
    have good0:=rowGood_zero k1
    refine G3 q (List.getElem?_eq_getElem k1) z ?_
    refine C0 (c_i_RowOk t.Rows[0] (hR _ (List.getElem_mem k1))) ?_
    cases g:t.Rows[0].ok
    ·have e:t.ok=false:=by simp only [TabV.ok,rng_not k1 (good0.trans g),Bool.false_and]
     exact F1 e
    ·refine G1 z ?_
     refine ⟨1,by rw [IntWalk.i64_in _ (by omega)]; rfl,⟨k1,rng_step hp (good0.trans g)⟩,by omega⟩
   | succ j =>
    have k0:j < t.Rows.length:=by omega
    have z:decide (((j + 1:Nat):Int) > 0)=true:=decide_eq_true (by omega)
    have ew:IntKind.i64.wrap (((j + 1:Nat):Int) - 1)=(j:Int):=by rw [IntWalk.i64_in _ (by omega)]; omega
    have good1:=rowGood_succ k1
    refine G3 q (List.getElem?_eq_getElem k1) z ?_
    refine C0 (c_i_RowOk t.Rows[j + 1] (hR _ (List.getElem_mem k1))) ?_
    cases g:t.Rows[j + 1].ok
    ·have gg:rowGood t.Rows (j + 1)=false:=by rw [good1,g,Bool.false_and]
     have e:t.ok=false:=by simp only [TabV.ok,rng_not k1 gg,Bool.false_and]
     exact F1 e
    ·cases g2:Op.bytesLess t.Rows[j].Key.toList t.Rows[j + 1].Key.toList
     ·have gg:rowGood t.Rows (j + 1)=false:=by rw [good1,g2,Bool.and_false]
      have e:t.ok=false:=by simp only [TabV.ok,rng_not k1 gg,Bool.false_and]
      try simp -implicitDefEqProofs (maxSteps:=1000000) only [go_sem,z,ew,List.getElem?_eq_getElem k0,List.getElem?_eq_getElem k1,g2,e]
      repeat refine ⟨sc,?_⟩
      try exact sf
     ·have gg:rowGood t.Rows (j + 1)=true:=by rw [good1,g,g2]; rfl
      try simp -implicitDefEqProofs (maxSteps:=1000000) only [go_sem,z,ew,List.getElem?_eq_getElem k0,List.getElem?_eq_getElem k1,g2]
      repeat refine ⟨sc,?_⟩
      try exact sf
      refine ⟨j + 2,by rw [IntWalk.i64_in _ (by omega)]; rfl,⟨k1,rng_step hp gg⟩,by omega⟩
def x_i_MarkAt:FnX:=⟨22,[.cell 4 (some 3),.tmp 5],
  .q [.v 2 0,.op 4 (.alloc [.i 0,.i 0,.i 0]),.F 5]
 (.seq (.q [.f 8 2 2,.l 9 8,.n 10 9,.i 11 0]
 (.block 0 (.loop [1,4,9,10,11] (.q [.b 12 .lss 11 10]
 (.seq (.cond 12 .skip (.exit 0))
 (.seq (.block 1 (.q [.x 13 3 9 11,.L 14 3 13,.op 7 (.alloc [.i 0,.i 0,.i 0]),.s 100001 3 7 14]
 (.q [.f 15 7 0,.l 16 15,.m 17 1,.b 18 .eql 16 17]
 (.c 18 (.q [.L 19 3 7,.s 100002 3 4 19,.T 5]
 .ret)))))
 (.reg [.B 20 .add 11 1,.m 11 20])))))))
 (.norm [4] (.q [.op 21 (.build [.i 0,.i 0,.i 0] []),.s 100003 3 4 21,.F 5]
 .ret)))⟩
theorem r_i_MarkAt {Te:TE}:C_i_MarkAt (RF Te x_i_MarkAt):=by
 intro t who hl
 refine X0 x_i_MarkAt.eq_1 ?_
 refine loop_of (σ:=Nat) (fun i=>⟨[(1,.one (.pv (.int .i64 who))),(4,.bp 4 0),(9,.one (.ro 3 (t.Marks.map MarkV.row))),(10,.one (.pv (.int .i64 t.Marks.length))),(11,.one (.pv (.int .i64 i)))],[(4,[.pv (.int .i64 0),.pv (.int .i64 0),.pv (.int .i64 0)])],[(0,t.enc false),(1,[iT who])]⟩) (fun i=>i≤t.Marks.length∧∀ j (hj:j < t.Marks.length),j < i→(t.Marks[j].Who==who)=false) (fun i=>t.Marks.length - i) 0 ?_ ⟨Nat.zero_le _,fun j _ h=>absurd h (Nat.not_lt_zero _)⟩ ?_
 ·simp -implicitDefEqProofs (maxSteps:=1000000) only [go_sem]
  try rfl
 ·rintro i ⟨hi,hp⟩
  cases q:decide ((i:Int) < (t.Marks.length:Int))
  ·have e:=markAt_none (i:=i) (by simp only [decide_eq_false_iff_not] at q; omega) hp
   exact F2 q e
  ·have k1:i < t.Marks.length:=by simp only [decide_eq_true_eq] at q; omega
   cases g:(t.Marks[i].Who==who)
   ·refine G3 q (List.getElem?_eq_getElem k1) g ?_
    refine ⟨i + 1,?_,⟨k1,markAt_step k1 hp g⟩,by omega⟩
    rw [IntWalk.i64_in _ (by omega)]
    rfl
   ·have e:=markAt_hit k1 hp g
    exact F4 q (List.getElem?_eq_getElem k1) g e
def x_s_MarkAt:FnX:=⟨28,[.cell 4 (some 3),.tmp 5],
  .q [.v 2 0,.op 4 (.alloc [.i 0,.i 0,.i 0]),.F 5]
 (.seq (.q [.i 6 0]
 (.block 0 (.loop [1,2,4,6] (.seq (.q [.m 7 6,.f 8 2 2,.l 9 8,.n 10 9,.b 11 .lss 7 10]
 (.cond 11 .skip (.exit 0)))
 (.seq (.block 1 (.q [.f 14 2 2,.l 15 14,.m 16 6,.x 17 3 15 16,.f 18 17 0,.l 19 18,.m 20 1,.b 21 .eql 19 20]
 (.c 21 (.q [.f 22 2 2,.l 23 22,.m 24 6,.x 25 3 23 24,.L 26 3 25,.s 100001 3 4 26,.T 5]
 .ret))))
 (.reg [.m 12 6,.B 13 .add 12 1,.m 6 13]))))))
 (.norm [4] (.q [.op 27 (.build [.i 0,.i 0,.i 0] []),.s 100002 3 4 27,.F 5]
 .ret)))⟩
theorem r_s_MarkAt {Te:TE}:C_s_MarkAt (RF Te x_s_MarkAt):=by
 intro t who hl
 refine X0 x_s_MarkAt.eq_1 ?_
 refine loop_of (σ:=Nat) (fun i=>⟨[(1,.one (.pv (.int .i64 who))),(2,.bp 2 0),(4,.bp 4 0),(6,.one (.pv (.int .i64 i)))],[(2,[.ro 7 (t.Rows.map (RowV.enc false)),.pv (.int .i64 t.Phase),.ro 3 (t.Marks.map MarkV.row)]),(4,[.pv (.int .i64 0),.pv (.int .i64 0),.pv (.int .i64 0)])],[(0,t.enc false),(1,[iT who])]⟩) (fun i=>i≤t.Marks.length∧∀ j (hj:j < t.Marks.length),j < i→(t.Marks[j].Who==who)=false) (fun i=>t.Marks.length - i) 0 ?_ ⟨Nat.zero_le _,fun j _ h=>absurd h (Nat.not_lt_zero _)⟩ ?_
 ·simp -implicitDefEqProofs (maxSteps:=1000000) only [go_sem]
  try rfl
 ·rintro i ⟨hi,hp⟩
  cases q:decide ((i:Int) < (t.Marks.length:Int))
  ·have e:=markAt_none (i:=i) (by simp only [decide_eq_false_iff_not] at q; omega) hp
   exact F2 q e
  ·have k1:i < t.Marks.length:=by simp only [decide_eq_true_eq] at q; omega
   cases g:(t.Marks[i].Who==who)
   ·refine G3 q (List.getElem?_eq_getElem k1) g ?_
    refine ⟨i + 1,?_,⟨k1,markAt_step k1 hp g⟩,by omega⟩
    rw [IntWalk.i64_in _ (by omega)]
    rfl
   ·have e:=markAt_hit k1 hp g
    exact F4 q (List.getElem?_eq_getElem k1) g e
def x_i_mayAsk:FnX:=⟨11,[.tmp 4],
  .q [.F 4]
 (.q [.m 5 0,.op 6 (.call 90 [0,0,0] [(.t 5),(.i 1),(.i 9)]),.m 7 6,.y 7 (.m 8 1),.y 7 (.op 9 (.call 90 [0,0,0] [(.t 8),(.i 1),(.i 65535)])),.a 10 7 9,.m 4 10]
 .ret)⟩
theorem r_i_mayAsk {Te:TE} (c_i_within:C_i_within Te):C_i_mayAsk (RF Te x_i_mayAsk):=by
 intro who seq
 refine X0 x_i_mayAsk.eq_1 ?_
 refine C0 (c_i_within _ _ _) ?_
 cases g:win who 1 9
 ·exact F0
 ·refine G0 ?_
  exact D0 (c_i_within _ _ _)
def x_i_askedBefore:FnX:=⟨34,[.tmp 6,.tmp 7],
  .q [.v 3 0,.i 6 0,.F 7]
 (.q [.f 11 3 0,.f 12 11 4,.L 13 3 12,.m 14 1,.c 15 160 [13,14],.m 10 15,.e 16 10 0,.e 17 10 1,.op 8 (.alloc [.i 0,.i 0,.i 0]),.s 100001 3 8 16,.m 9 17]
 (.seq (.block 0 (.q [.m 19 9,.N 20 19,.m 21 20,.z 21 (.f 22 8 1),.z 21 (.l 23 22),.z 21 (.m 24 2),.z 21 (.b 25 .lss 23 24),.r 26 21 25,.m 18 26]
 (.cond 18 (.q [.i 6 0,.F 7]
 .ret) (.q [.f 28 8 1,.l 29 28,.m 30 2,.b 31 .gtr 29 30,.m 27 31]
 (.c 27 (.q [.i 6 1,.T 7]
 .ret))))))
 (.q [.f 32 8 2,.l 33 32,.m 6 33,.T 7]
 .ret)))⟩
theorem r_i_askedBefore {Te:TE} (c_i_MarkAt:C_i_MarkAt Te):C_i_askedBefore (RF Te x_i_askedBefore):=by
 intro n who seq hl
 refine X0 x_i_askedBefore.eq_1 ?_
 refine C0 (c_i_MarkAt n.S.T who hl) ?_
 cases g:markAt n.S.T.Marks who with
 | none =>
  try simp -implicitDefEqProofs (maxSteps:=1000000) only [go_sem,oldOf,Option.isSome_none]
  repeat refine ⟨sc,?_⟩
  try exact sf
  try rfl
 | some m =>
  cases g1:decide (m.Seq < seq)
  ·cases g2:decide (m.Seq > seq)
   ·have g3:(m.Seq==seq)=true:=by simp only [decide_eq_false_iff_not] at g1 g2; simp only [beq_iff_eq]; omega
    try simp -implicitDefEqProofs (maxSteps:=1000000) only [go_sem,oldOf,Option.isSome_some,g1,g2,g3]
    repeat refine ⟨sc,?_⟩
    try exact sf
    try rfl
   ·try simp -implicitDefEqProofs (maxSteps:=1000000) only [go_sem,oldOf,Option.isSome_some,g1,g2]
    repeat refine ⟨sc,?_⟩
    try exact sf
    try rfl
  ·have g2:decide (m.Seq > seq)=false:=by simp only [decide_eq_true_eq] at g1; exact decide_eq_false (by omega)
   have g3:(m.Seq==seq)=false:=by simp only [decide_eq_true_eq] at g1; simp only [beq_eq_false_iff_ne]; omega
   try simp -implicitDefEqProofs (maxSteps:=1000000) only [go_sem,oldOf,Option.isSome_some,g1,g2,g3]
   repeat refine ⟨sc,?_⟩
   try exact sf
   try rfl
def x_s_l15Old:FnX:=⟨49,[.tmp 6,.tmp 7],
  .q [.v 3 0,.i 6 0,.F 7]
 (.seq (.q [.L 10 10 3,.c 11 64 [10],.N 12 11,.m 13 12,.z 13 (.m 14 1),.z 13 (.op 15 (.call 120 [0,0,0] [(.t 14),(.i 1),(.i 9)])),.z 13 (.N 16 15),.r 17 13 16,.m 18 17,.z 18 (.m 19 2),.z 18 (.op 20 (.call 120 [0,0,0] [(.t 19),(.i 1),(.i 65535)])),.z 18 (.N 21 20),.r 22 18 21]
 (.c 22 (.q [.i 6 1,.T 7]
 .ret)))
 (.q [.f 24 3 0,.f 25 24 4,.L 26 3 25,.m 27 1,.c 28 78 [26,27],.m 23 28,.e 29 23 0,.e 30 23 1,.op 8 (.alloc [.i 0,.i 0,.i 0]),.s 100001 3 8 29,.m 9 30]
 (.seq (.block 0 (.q [.m 32 9,.m 33 32,.y 33 (.f 34 8 1),.y 33 (.l 35 34),.y 33 (.m 36 2),.y 33 (.b 37 .gtr 35 36),.a 38 33 37,.m 31 38]
 (.cond 31 (.q [.i 6 1,.T 7]
 .ret) (.q [.m 40 9,.m 41 40,.y 41 (.f 42 8 1),.y 41 (.l 43 42),.y 41 (.m 44 2),.y 41 (.b 45 .eql 43 44),.a 46 41 45,.m 39 46]
 (.c 39 (.q [.f 47 8 2,.l 48 47,.m 6 48,.T 7]
 .ret))))))
 (.q [.i 6 0,.F 7]
 .ret))))⟩
theorem r_s_l15Old {Te:TE} (c_s_l15Up:C_s_l15Up Te) (c_s_l1In:C_s_l1In Te) (c_s_MarkAt:C_s_MarkAt Te):C_s_l15Old (RF Te x_s_l15Old):=by
 intro n who seq h
 refine X0 x_s_l15Old.eq_1 ?_
 refine C0 (c_s_l15Up n h) ?_
 cases g1:n.up
 ·have e:n.old who seq=(1,true):=by rw [NodeV.old,g1]; rfl
  exact F1 e
 refine G0 ?_
 refine C0 (c_s_l1In _ _ _) ?_
 cases g2:win who 1 9
 ·have e:n.old who seq=(1,true):=by rw [NodeV.old,g1,g2]; rfl
  exact F1 e
 refine G0 ?_
 refine C0 (c_s_l1In _ _ _) ?_
 cases g3:win seq 1 65535
 ·have e:n.old who seq=(1,true):=by rw [NodeV.old,g1,g2,g3]; rfl
  exact F1 e
 have e:n.old who seq=oldOf (markAt n.S.T.Marks who) seq:=by rw [NodeV.old,g1,g2,g3]; rfl
 refine G0 ?_
 refine C0 (c_s_MarkAt n.S.T who h.2.2) ?_
 cases g:markAt n.S.T.Marks who with
 | none =>
  try simp -implicitDefEqProofs (maxSteps:=1000000) only [go_sem,e,g,oldOf,Option.isSome_none]
  repeat refine ⟨sc,?_⟩
  try exact sf
  try rfl
 | some m =>
  cases g4:decide (m.Seq > seq)
  ·cases g5:(m.Seq==seq)
   ·try simp -implicitDefEqProofs (maxSteps:=1000000) only [go_sem,e,g,oldOf,Option.isSome_some,g4,g5]
    repeat refine ⟨sc,?_⟩
    try exact sf
    try rfl
   ·try simp -implicitDefEqProofs (maxSteps:=1000000) only [go_sem,e,g,oldOf,Option.isSome_some,g4,g5]
    repeat refine ⟨sc,?_⟩
    try exact sf
    try rfl
  ·try simp -implicitDefEqProofs (maxSteps:=1000000) only [go_sem,e,g,oldOf,Option.isSome_some,g4]
   repeat refine ⟨sc,?_⟩
   try exact sf
   try rfl
def x_s_SignOk:FnX:=⟨10,[.tmp 2],
  .q [.F 2]
 (.q [.m 3 0,.op 4 (.call 120 [0,0,0] [(.t 3),(.i 0),(.i 1114111)]),.m 5 4,.y 5 (.m 6 0),.y 5 (.op 7 (.call 120 [0,0,0] [(.t 6),(.i 55296),(.i 57343)])),.y 5 (.N 8 7),.a 9 5 8,.m 2 9]
 .ret)⟩
theorem r_s_SignOk {Te:TE} (c_s_l1In:C_s_l1In Te):C_s_SignOk (RF Te x_s_SignOk):=by
 intro n
 refine run0 ?_
 simp -implicitDefEqProofs (maxSteps:=1000000) only [x_s_SignOk,go_sem,signOk]
 repeat refine ⟨sc,?_⟩
 try exact sf
 refine C0 (c_s_l1In _ _ _) ?_
 cases g1:win n 0 1114111
 ·exact F0
 ·refine G0 ?_
  exact D0 (c_s_l1In _ _ _)
def x_i_SignOk:FnX:=⟨10,[.tmp 2],
  .q [.F 2]
 (.q [.m 3 0,.op 4 (.call 90 [0,0,0] [(.t 3),(.i 0),(.i 1114111)]),.m 5 4,.y 5 (.m 6 0),.y 5 (.op 7 (.call 90 [0,0,0] [(.t 6),(.i 55296),(.i 57343)])),.y 5 (.N 8 7),.a 9 5 8,.m 2 9]
 .ret)⟩
theorem r_i_SignOk {Te:TE} (c_i_within:C_i_within Te):C_i_SignOk (RF Te x_i_SignOk):=by
 intro n
 refine run0 ?_
 simp -implicitDefEqProofs (maxSteps:=1000000) only [x_i_SignOk,go_sem,signOk]
 repeat refine ⟨sc,?_⟩
 try exact sf
 refine C0 (c_i_within _ _ _) ?_
 cases g1:win n 0 1114111
 ·exact F0
 ·refine G0 ?_
  exact D0 (c_i_within _ _ _)
def x_s_PutSign:FnX:=⟨76,[.tmp 4],
  .q [.op 4 (.mv (.k (.one (.nils 1))))]
 (.q [.op 6 (.bslice 1 []),.m 7 0,.op 8 (.app 1 1 (.t 6) (.t 7)),.m 5 8]
 (.seq (.block 0 (.q [.m 10 1,.c 11 275 [10],.N 12 11,.m 9 12]
 (.cond 9 (.q [.m 13 5,.m 4 13]
 .ret) (.q [.m 15 1,.B 16 .leq 15 127,.m 14 16]
 (.cond 14 (.q [.m 17 5,.m 18 1,.op 19 (.conv (.int .u8) (.t 18)),.op 20 (.bslice 1 [(.t 19)]),.op 21 (.app 1 1 (.t 17) (.t 20)),.m 4 21]
 .ret) (.q [.m 23 1,.B 24 .leq 23 2047,.m 22 24]
 (.cond 22 (.q [.m 25 5,.m 26 1,.op 27 (.bin .shr (.t 26) (.k (.one (.pv (.int .u64 6))))),.op 28 (.bin .or (.i 192) (.t 27)),.op 29 (.conv (.int .u8) (.t 28)),.m 30 1,.B 31 .and 30 63,.op 32 (.bin .or (.i 128) (.t 31)),.op 33 (.conv (.int .u8) (.t 32)),.op 34 (.bslice 1 [(.t 29),(.t 33)]),.op 35 (.app 1 1 (.t 25) (.t 34)),.m 4 35]
 .ret) (.q [.m 37 1,.B 38 .leq 37 65535,.m 36 38]
 (.c 36 (.q [.m 39 5,.m 40 1,.op 41 (.bin .shr (.t 40) (.k (.one (.pv (.int .u64 12))))),.op 42 (.bin .or (.i 224) (.t 41)),.op 43 (.conv (.int .u8) (.t 42)),.m 44 1,.op 45 (.bin .shr (.t 44) (.k (.one (.pv (.int .u64 6))))),.B 46 .and 45 63,.op 47 (.bin .or (.i 128) (.t 46)),.op 48 (.conv (.int .u8) (.t 47)),.m 49 1,.B 50 .and 49 63,.op 51 (.bin .or (.i 128) (.t 50)),.op 52 (.conv (.int .u8) (.t 51)),.op 53 (.bslice 1 [(.t 43),(.t 48),(.t 52)]),.op 54 (.app 1 1 (.t 39) (.t 53)),.m 4 54]
 .ret))))))))))
 (.q [.m 55 5,.m 56 1,.op 57 (.bin .shr (.t 56) (.k (.one (.pv (.int .u64 18))))),.op 58 (.bin .or (.i 240) (.t 57)),.op 59 (.conv (.int .u8) (.t 58)),.m 60 1,.op 61 (.bin .shr (.t 60) (.k (.one (.pv (.int .u64 12))))),.B 62 .and 61 63,.op 63 (.bin .or (.i 128) (.t 62)),.op 64 (.conv (.int .u8) (.t 63)),.m 65 1,.op 66 (.bin .shr (.t 65) (.k (.one (.pv (.int .u64 6))))),.B 67 .and 66 63,.op 68 (.bin .or (.i 128) (.t 67)),.op 69 (.conv (.int .u8) (.t 68)),.m 70 1,.B 71 .and 70 63,.op 72 (.bin .or (.i 128) (.t 71)),.op 73 (.conv (.int .u8) (.t 72)),.op 74 (.bslice 1 [(.t 59),(.t 64),(.t 69),(.t 73)]),.op 75 (.app 1 1 (.t 55) (.t 74)),.m 4 75]
 .ret)))⟩
theorem r_s_PutSign {Te:TE} (c_s_SignOk:C_s_SignOk Te):C_s_PutSign (RF Te x_s_PutSign):=by
 intro b n hb
 cases hn:signOk n
 ·refine X0 x_s_PutSign.eq_1 ?_
  refine .of (c_s_SignOk _) ?_
  try simp -implicitDefEqProofs (maxSteps:=1000000) only [go_sem,putSign,hn,if_false]
  repeat refine ⟨sc,?_⟩
  try exact sf
  try rfl
 obtain ⟨h0,h1,_⟩:=signOk_in hn
 obtain ⟨m,rfl⟩:∃ m:Nat,n=m:=⟨n.toNat,by omega⟩
 have ep:putSign b (m:Int)=b++enc8 m:=by simp only [putSign,hn,if_true,Int.toNat_natCast]
 have d6:(m:Int).fdiv (2 ^ 6)=((m / 64:Nat):Int):=fdivN m 64
 have d12:(m:Int).fdiv (2 ^ 12)=((m / 4096:Nat):Int):=fdivN m 4096
 have d18:(m:Int).fdiv (2 ^ 18)=((m / 262144:Nat):Int):=fdivN m 262144
 have a0:=and63 m (by omega)
 have a6:=and63 (m / 64) (by omega)
 have a12:=and63 (m / 4096) (by omega)
 have o0:orK .i64 128 ((m % 64:Nat):Int)=((128 + m % 64:Nat):Int):=or_hd 128 6 2 rfl (by omega) (by omega)
 have o6:orK .i64 128 ((m / 64 % 64:Nat):Int)=((128 + m / 64 % 64:Nat):Int):=or_hd 128 6 2 rfl (by omega) (by omega)
 have o12:orK .i64 128 ((m / 4096 % 64:Nat):Int)=((128 + m / 4096 % 64:Nat):Int):=or_hd 128 6 2 rfl (by omega) (by omega)
 cases q:decide ((m:Int)≤127)
 ·have hq:¬ m≤127:=by simp only [decide_eq_false_iff_not] at q; omega
  cases q2:decide ((m:Int)≤2047)
  ·have hq2:¬ m≤2047:=by simp only [decide_eq_false_iff_not] at q2; omega
   cases q3:decide ((m:Int)≤65535)
   ·have hq3:¬ m≤65535:=by simp only [decide_eq_false_iff_not] at q3; omega
    have t:orK .i64 240 ((m / 262144:Nat):Int)=((240 + m / 262144:Nat):Int):=or_hd 240 3 30 rfl (by omega) (by omega)
    have ee:List.take (b.length + 4) (List.map uR b++[[uT (mkU ((240 + m / 262144:Nat):Int))],[uT (mkU ((128 + m / 4096 % 64:Nat):Int))],[uT (mkU ((128 + m / 64 % 64:Nat):Int))],[uT (mkU ((128 + m % 64:Nat):Int))]])=List.map uR (b++enc8 m):=by
     rw [List.take_of_length_le (by simp),mkU_nat,mkU_nat,mkU_nat,mkU_nat]
     simp only [enc8,if_neg hq,if_neg hq2,if_neg hq3,List.map_append,List.map_cons,List.map_nil]
    refine X0 x_s_PutSign.eq_1 ?_
    refine .of (c_s_SignOk _) ?_
    try simp -implicitDefEqProofs (maxSteps:=1000000) only [go_sem,hn,ep,q,q2,q3,show Nat.min 6 64=6 from rfl,show Nat.min 12 64=12 from rfl,show Nat.min 18 64=18 from rfl,d6,d12,d18,a0,a6,a12,o0,o6,o12,t,mkU_wrap,ee]
    repeat refine ⟨sc,?_⟩
    try exact sf
   ·have hq3:m≤65535:=by simp only [decide_eq_true_eq] at q3; omega
    have t:orK .i64 224 ((m / 4096:Nat):Int)=((224 + m / 4096:Nat):Int):=or_hd 224 4 14 rfl (by omega) (by omega)
    have ee:List.take (b.length + 3) (List.map uR b++[[uT (mkU ((224 + m / 4096:Nat):Int))],[uT (mkU ((128 + m / 64 % 64:Nat):Int))],[uT (mkU ((128 + m % 64:Nat):Int))]])=List.map uR (b++enc8 m):=by
     rw [List.take_of_length_le (by simp),mkU_nat,mkU_nat,mkU_nat]
     simp only [enc8,if_neg hq,if_neg hq2,if_pos hq3,List.map_append,List.map_cons,List.map_nil]
    refine X0 x_s_PutSign.eq_1 ?_
    refine .of (c_s_SignOk _) ?_
    try simp -implicitDefEqProofs (maxSteps:=1000000) only [go_sem,hn,ep,q,q2,q3,show Nat.min 6 64=6 from rfl,show Nat.min 12 64=12 from rfl,d6,d12,a0,a6,o0,o6,t,mkU_wrap,ee]
    repeat refine ⟨sc,?_⟩
    try exact sf
  ·have hq2:m≤2047:=by simp only [decide_eq_true_eq] at q2; omega
   have t:orK .i64 192 ((m / 64:Nat):Int)=((192 + m / 64:Nat):Int):=or_hd 192 6 3 rfl (by omega) (by omega)
   have ee:List.take (b.length + 2) (List.map uR b++[[uT (mkU ((192 + m / 64:Nat):Int))],[uT (mkU ((128 + m % 64:Nat):Int))]])=List.map uR (b++enc8 m):=by
    rw [List.take_of_length_le (by simp),mkU_nat,mkU_nat]
    simp only [enc8,if_neg hq,if_pos hq2,List.map_append,List.map_cons,List.map_nil]
   refine X0 x_s_PutSign.eq_1 ?_
   refine .of (c_s_SignOk _) ?_
   try simp -implicitDefEqProofs (maxSteps:=1000000) only [go_sem,hn,ep,q,q2,show Nat.min 6 64=6 from rfl,d6,a0,o0,t,mkU_wrap,ee]
   repeat refine ⟨sc,?_⟩
   try exact sf
 ·have hq:m≤127:=by simp only [decide_eq_true_eq] at q; omega
  have ee:List.take (b.length + 1) (List.map uR b++[[uT (mkU (m:Int))]])=List.map uR (b++enc8 m):=by
   rw [List.take_of_length_le (by simp),mkU_nat]
   simp only [enc8,if_pos hq,List.map_append,List.map_cons,List.map_nil]
  refine X0 x_s_PutSign.eq_1 ?_
  refine .of (c_s_SignOk _) ?_
  try simp -implicitDefEqProofs (maxSteps:=1000000) only [go_sem,hn,ep,q,mkU_wrap,ee]
  repeat refine ⟨sc,?_⟩
  try exact sf
def x_s_l3Koi:FnX:=⟨28,[.tmp 2],
  .q [.i 2 0]
 (.q [.op 4 (.bslice 1 [(.i 1102),(.i 1072),(.i 1073),(.i 1094),(.i 1076),(.i 1077),(.i 1092),(.i 1075),(.i 1093),(.i 1080),(.i 1081),(.i 1082),(.i 1083),(.i 1084),(.i 1085),(.i 1086),(.i 1087),(.i 1103),(.i 1088),(.i 1089),(.i 1090),(.i 1091),(.i 1078),(.i 1074),(.i 1100),(.i 1099),(.i 1079),(.i 1096),(.i 1101),(.i 1097),(.i 1095),(.i 1098)]),.m 3 4]
 (.seq (.block 0 (.q [.m 6 0,.B 7 .geq 6 224,.m 5 7]
 (.cond 5 (.q [.m 8 3,.m 9 0,.B 10 .sub 9 224,.x 11 1 8 10,.l 12 11,.B 13 .sub 12 32,.m 2 13]
 .ret) (.q [.m 15 0,.B 16 .geq 15 192,.m 14 16]
 (.cond 14 (.q [.m 17 3,.m 18 0,.B 19 .sub 18 192,.x 20 1 17 19,.l 21 20,.m 2 21]
 .ret) (.q [.m 23 0,.B 24 .eql 23 163,.m 22 24]
 (.cond 22 (.q [.i 2 1105]
 .ret) (.q [.m 26 0,.B 27 .eql 26 179,.m 25 27]
 (.c 25 (.q [.i 2 1025]
 .ret))))))))))
 (.q [.i 2 (-1)]
 .ret)))⟩
theorem r_s_l3Koi {Te:TE}:C_s_l3Koi (RF Te x_s_l3Koi):=by
 intro b hb
 refine run0 ?_
 cases g1:decide (b≥224)
 ·cases g2:decide (b≥192)
  ·cases g3:(b==163)
   ·cases g4:(b==179)
    ·simp -implicitDefEqProofs (maxSteps:=1000000) only [x_s_l3Koi,go_sem,koi,g1,g2,g3,g4]
     repeat refine ⟨sc,?_⟩
     try exact sf
    ·simp -implicitDefEqProofs (maxSteps:=1000000) only [x_s_l3Koi,go_sem,koi,g1,g2,g3,g4]
     repeat refine ⟨sc,?_⟩
     try exact sf
   ·simp -implicitDefEqProofs (maxSteps:=1000000) only [x_s_l3Koi,go_sem,koi,g1,g2,g3]
    repeat refine ⟨sc,?_⟩
    try exact sf
  ·simp only [decide_eq_true_eq] at g2
   have e:IntKind.i64.wrap (b - 192)=b - 192:=IntWalk.i64_in _ (by omega)
   simp only [decide_eq_false_iff_not] at g1
   have hk:(b - 192).toNat < 32:=by omega
   have q1:=decide_eq_false g1
   have q2:=decide_eq_true g2
   simp -implicitDefEqProofs (maxSteps:=1000000) only [x_s_l3Koi,go_sem,koi,q1,q2,e,Nat.mul_one,List.getD_eq_getElem?_getD]
   repeat refine ⟨sc,?_⟩
   try exact sf
   try simp -implicitDefEqProofs (maxSteps:=1000000) only [go_sem,koi_row hk,q1,q2]
   repeat refine ⟨sc,?_⟩
   try exact sf
   try simp only [List.getD_eq_getElem?_getD]
 ·simp only [decide_eq_true_eq] at g1
  have e:IntKind.i64.wrap (b - 224)=b - 224:=IntWalk.i64_in _ (by omega)
  have hk:(b - 224).toNat < 32:=by omega
  have q1:=decide_eq_true g1
  have hv:=koi_in ⟨(b - 224).toNat,hk⟩
  have e2:IntKind.i64.wrap (koiL.getD (b - 224).toNat 0 - 32)=koiL.getD (b - 224).toNat 0 - 32:=IntWalk.i64_in _ (by simp only at hv; omega)
  simp -implicitDefEqProofs (maxSteps:=1000000) only [x_s_l3Koi,go_sem,koi,q1,e,Nat.mul_one,List.getD_eq_getElem?_getD]
  repeat refine ⟨sc,?_⟩
  try exact sf
  try simp -implicitDefEqProofs (maxSteps:=1000000) only [go_sem,koi_row hk,q1,e2]
  repeat refine ⟨sc,?_⟩
  try exact sf
  try simp only [List.getD_eq_getElem?_getD]
def x_i_winSign:FnX:=⟨12,[.tmp 2],
  .q [.i 2 0]
 (.q [.op 4 (.build [.i 0,.i 0,.i 0,.i 0,.i 0,.i 0,.i 0,.i 0,.i 0,.i 0,.i 0,.i 0,.i 0,.i 0,.i 0,.i 0,.i 0,.i 0,.i 0,.i 0,.i 0,.i 0,.i 0,.i 0,.i 0,.i 0,.i 0,.i 0,.i 0,.i 0,.i 0,.i 0] [(0,1,(.i 8364)),(1,1,(.i 0)),(2,1,(.i 8218)),(3,1,(.i 402)),(4,1,(.i 8222)),(5,1,(.i 8230)),(6,1,(.i 8224)),(7,1,(.i 8225)),(8,1,(.i 710)),(9,1,(.i 8240)),(10,1,(.i 352)),(11,1,(.i 8249)),(12,1,(.i 338)),(13,1,(.i 0)),(14,1,(.i 381)),(15,1,(.i 0)),(16,1,(.i 0)),(17,1,(.i 8216)),(18,1,(.i 8217)),(19,1,(.i 8220)),(20,1,(.i 8221)),(21,1,(.i 8226)),(22,1,(.i 8211)),(23,1,(.i 8212)),(24,1,(.i 732)),(25,1,(.i 8482)),(26,1,(.i 353)),(27,1,(.i 8250)),(28,1,(.i 339)),(29,1,(.i 0)),(30,1,(.i 382)),(31,1,(.i 376))]),.op 3 (.alloc [.i 0,.i 0,.i 0,.i 0,.i 0,.i 0,.i 0,.i 0,.i 0,.i 0,.i 0,.i 0,.i 0,.i 0,.i 0,.i 0,.i 0,.i 0,.i 0,.i 0,.i 0,.i 0,.i 0,.i 0,.i 0,.i 0,.i 0,.i 0,.i 0,.i 0,.i 0,.i 0]),.s 100001 32 3 4]
 (.seq (.q [.m 5 0,.B 6 .geq 5 160]
 (.c 6 (.q [.m 7 0,.m 2 7]
 .ret)))
 (.q [.m 8 0,.B 9 .sub 8 128,.op 10 (.aaddr 32 1 (.t 3) (.t 9)),.l 11 10,.m 2 11]
 .ret)))⟩
theorem r_i_winSign {Te:TE}:C_i_winSign (RF Te x_i_winSign):=by
 intro b hb
 refine run0 ?_
 cases g1:decide (b≥160)
 ·have e:IntKind.i64.wrap (b - 128)=b - 128:=IntWalk.i64_in _ (by omega)
  have hk:(b - 128).toNat < 32:=by simp only [decide_eq_false_iff_not] at g1; omega
  simp -implicitDefEqProofs (maxSteps:=1000000) only [x_i_winSign,go_sem,winB,g1,e,Nat.mul_one]
  repeat refine ⟨sc,?_⟩
  try exact sf
  try simp -implicitDefEqProofs (maxSteps:=1000000) only [go_sem,win_cel hk,g1]
  repeat refine ⟨sc,?_⟩
  try exact sf
 ·simp -implicitDefEqProofs (maxSteps:=1000000) only [x_i_winSign,go_sem,winB,g1]
  repeat refine ⟨sc,?_⟩
  try exact sf
def x_s_l3Win:FnX:=⟨13,[.tmp 2],
  .q [.i 2 0]
 (.q [.op 4 (.bslice 1 [(.i 8364),(.i (-1)),(.i 8218),(.i 402),(.i 8222),(.i 8230),(.i 8224),(.i 8225),(.i 710),(.i 8240),(.i 352),(.i 8249),(.i 338),(.i (-1)),(.i 381),(.i (-1)),(.i (-1)),(.i 8216),(.i 8217),(.i 8220),(.i 8221),(.i 8226),(.i 8211),(.i 8212),(.i 732),(.i 8482),(.i 353),(.i 8250),(.i 339),(.i (-1)),(.i 382),(.i 376)]),.m 3 4]
 (.seq (.q [.m 5 0,.B 6 .geq 5 160]
 (.c 6 (.q [.m 7 0,.m 2 7]
 .ret)))
 (.q [.m 8 3,.m 9 0,.B 10 .sub 9 128,.x 11 1 8 10,.l 12 11,.m 2 12]
 .ret)))⟩
theorem r_s_l3Win {Te:TE}:C_s_l3Win (RF Te x_s_l3Win):=by
 intro b hb
 refine run0 ?_
 cases g1:decide (b≥160)
 ·have e:IntKind.i64.wrap (b - 128)=b - 128:=IntWalk.i64_in _ (by omega)
  have hk:(b - 128).toNat < 32:=by simp only [decide_eq_false_iff_not] at g1; omega
  simp -implicitDefEqProofs (maxSteps:=1000000) only [x_s_l3Win,go_sem,winB,g1,e,Nat.mul_one,List.getD_eq_getElem?_getD]
  repeat refine ⟨sc,?_⟩
  try exact sf
  try simp -implicitDefEqProofs (maxSteps:=1000000) only [go_sem,win_row hk,g1]
  repeat refine ⟨sc,?_⟩
  try exact sf
  try simp only [List.getD_eq_getElem?_getD]
 ·simp -implicitDefEqProofs (maxSteps:=1000000) only [x_s_l3Win,go_sem,winB,g1]
  repeat refine ⟨sc,?_⟩
  try exact sf
def x_i_sectorOf:FnX:=⟨11,[.tmp 4],
  .q [.i 4 0]
 (.q [.m 5 0,.B 6 .rem 5 2,.op 7 (.bin .mul (.i 30) (.t 6)),.op 8 (.bin .add (.i 2) (.t 7)),.m 9 1,.b 10 .add 8 9,.m 4 10]
 .ret)⟩
theorem r_i_sectorOf {Te:TE}:C_i_sectorOf (RF Te x_i_sectorOf):=by
 intro gen place
 refine X0 x_i_sectorOf.eq_1 ?_
 try rfl
def x_s_l13At:FnX:=⟨11,[.tmp 4],
  .q [.i 4 0]
 (.q [.m 5 0,.B 6 .rem 5 2,.op 7 (.bin .mul (.i 30) (.t 6)),.op 8 (.bin .add (.i 2) (.t 7)),.m 9 1,.b 10 .add 8 9,.m 4 10]
 .ret)⟩
theorem r_s_l13At {Te:TE}:C_s_l13At (RF Te x_s_l13At):=by
 intro gen place
 refine X0 x_s_l13At.eq_1 ?_
 try rfl
def x_i_laid:FnX:=⟨38,[.cell 6 (some 4)],
  .q [.v 3 0,.op 6 (.alloc [.nils 1,.nils 2,.i 0,.F])]
 (.seq (.q [.m 9 2,.n 10 9,.i 11 0]
 (.block 0 (.loop [1,2,3,6,9,10,11] (.q [.b 12 .lss 11 10]
 (.seq (.cond 12 .skip (.exit 0))
 (.seq (.block 1 (.q [.m 13 11,.x 14 13 9 11,.L 15 13 14,.op 8 (.alloc [.i 0,.e,.i 0,.nils 1,.i 0,.nils 1,.i 0,.F,.e,.i 0,.i 0,.i 0,.i 0]),.m 7 13,.s 100001 13 8 15]
 (.draw [.L 16 4 3,.m 17 1,.m 18 7,.c 19 258 [17,18],.m 20 1,.m 21 7,.L 22 13 8,.c 23 259 [20,21,22],.c 24 257 [16,19,23],.s 100002 4 3 24] [[],[],[],[1,2],[],[],[],[4,5,6,3],[0,3,7,7],[8,8,0,1,2,3,4,5,6,7,8]])))
 (.reg [.B 25 .add 11 1,.m 11 25])))))))
 (.norm [1,2,3,6] (.q [.L 26 4 3,.c 27 260 [26],.s 100003 4 3 27]
 (.seq (.draw [.L 28 4 3,.m 29 1,.B 30 .rem 29 2,.m 31 1,.m 32 2,.n 33 32,.c 34 293 [31,33],.c 35 257 [28,30,34],.s 100004 4 3 35] [[],[],[1],[],[],[4],[3,5],[0,2,6,6],[7,7,0,1,2,3,4,5,6,7]])
 (.q [.L 36 4 3,.c 37 260 [36],.s 100005 4 6 37]
 .ret)))))⟩
theorem r_i_laid {Te:TE} (c_i_sectorOf:C_i_sectorOf Te) (c_i_PutRec:C_i_PutRec Te) (c_i_WriteSec:C_i_WriteSec Te) (c_i_FlushDev:C_i_FlushDev Te) (c_i_HeadOf:C_i_HeadOf Te):C_i_laid (RF Te x_i_laid):=by
 intro d gen recs hd hr
 have hrl:=hr.1
 refine X0 x_i_laid.eq_1 ?_
 refine loop_of (σ:=Bool×Nat×DevV) (fun x=>cond x.1 (⟨[(1,.one (.pv (.int .i64 gen))),(2,.one (.ro 13 (recs.map (RecV.enc false)))),(3,.bp 3 0),(6,.bp 6 0),(9,.one (.ro 13 (recs.map (RecV.enc false)))),(10,.one (.pv (.int .i64 recs.length))),(11,.one (.pv (.int .i64 x.2.1)))],[(3,[.rf 41 0 [] 1 0 x.2.2.Secs.length,.rf 41 1 [] 2 0 x.2.2.Cache.length,.pv (.int .i64 x.2.2.Fuse),.pv (.bool x.2.2.Down)]),(6,[.nils 1,.nils 2,.pv (.int .i64 0),.pv (.bool false)])],[(0,d.enc false),(1,[iT gen]),(2,[slT false 13 (RecV.enc false) recs]),(41,x.2.2.enc true)]⟩) (⟨[(1,.one (.pv (.int .i64 gen))),(2,.one (.ro 13 (recs.map (RecV.enc false)))),(3,.bp 3 0),(6,.bp 6 0),(9,.one (.ro 13 (recs.map (RecV.enc false)))),(10,.one (.pv (.int .i64 recs.length))),(11,.one (.pv (.int .i64 x.2.1)))],[(3,[.ro 1 (x.2.2.Secs.map (secR false)),.ro 2 (x.2.2.Cache.map (WrV.enc false)),.pv (.int .i64 x.2.2.Fuse),.pv (.bool x.2.2.Down)]),(6,[.nils 1,.nils 2,.pv (.int .i64 0),.pv (.bool false)])],[(0,d.enc false),(1,[iT gen]),(2,[slT false 13 (RecV.enc false) recs])]⟩)) (fun x=>x.2.1≤recs.length∧x.2.2=layN gen recs d x.2.1∧x.2.2.ok=true∧(x.1=false→x.2.1=0)) (fun x=>recs.length - x.2.1) (false,0,d) ?_ ⟨Nat.zero_le _,rfl,hd,fun _=>rfl⟩ ?_
 ·simp -implicitDefEqProofs (maxSteps:=1000000) only [go_sem]
  try rfl
 ·rintro ⟨b,i,D⟩ ⟨hi,hD,hk,hb⟩
  simp only at hi hD hk hb
  cases b
  ·cases q:decide ((i:Int) < (recs.length:Int))
   ·skip
    have k0:i=recs.length:=by simp only [decide_eq_false_iff_not] at q; omega
    have e:((D.flush).write (gen.tmod 2) (headOf gen recs.length)).flush=layDev gen recs d:=by rw [hD,k0]; rfl
    have hh:=headOf_len gen recs.length
    have f1:=flush_ok hk
    have f2:=write_ok f1 (gen.tmod 2) (headOf gen recs.length)
    refine G1 q ?_
    refine C0 (c_i_FlushDev D hk) ?_
    refine C0 (c_i_HeadOf _ _) ?_
    refine .of (c_i_WriteSec D.flush _ _ f1 (by omega)) ?_
    try simp -implicitDefEqProofs (maxSteps:=1000000) only [go_sem,take_all]
    repeat refine ⟨sc,?_⟩
    try exact sf
    refine .of (c_i_FlushDev _ f2) ?_
    try simp -implicitDefEqProofs (maxSteps:=1000000) only [go_sem,take_all,e,DevV.enc]
    repeat refine ⟨sc,?_⟩
    try exact sf
    try rfl
   ·skip
    have k1:i < recs.length:=by simp only [decide_eq_true_eq] at q; omega
    have hp:=putRec_len gen i recs[i]
    have hin:=hr.2 _ (List.getElem_mem k1)
    have es:=layN_step gen d k1
    rw [← hD] at es
    refine G2 q (List.getElem?_eq_getElem k1) ?_
    refine C0 (c_i_sectorOf _ _) ?_
    refine C0 (c_i_PutRec _ _ recs[i] hin) ?_
    refine .of (c_i_WriteSec D _ _ hk (by omega)) ?_
    try simp -implicitDefEqProofs (maxSteps:=1000000) only [go_sem,take_all]
    repeat refine ⟨sc,?_⟩
    try exact sf
    refine ⟨(true,i + 1,D.write (secOf gen i) (putRec gen i recs[i])),?_,⟨k1,es,write_ok hk _ _,fun h=>by cases h⟩,by simp only; omega⟩
    rw [IntWalk.i64_in _ (by omega)]
    rfl
  ·cases q:decide ((i:Int) < (recs.length:Int))
   ·skip
    have k0:i=recs.length:=by simp only [decide_eq_false_iff_not] at q; omega
    have e:((D.flush).write (gen.tmod 2) (headOf gen recs.length)).flush=layDev gen recs d:=by rw [hD,k0]; rfl
    have hh:=headOf_len gen recs.length
    have f1:=flush_ok hk
    have f2:=write_ok f1 (gen.tmod 2) (headOf gen recs.length)
    refine G1 q ?_
    refine C0 (c_i_FlushDev D hk) ?_
    refine C0 (c_i_HeadOf _ _) ?_
    refine .of (c_i_WriteSec D.flush _ _ f1 (by omega)) ?_
    try simp -implicitDefEqProofs (maxSteps:=1000000) only [go_sem,take_all]
    repeat refine ⟨sc,?_⟩
    try exact sf
    refine .of (c_i_FlushDev _ f2) ?_
    try simp -implicitDefEqProofs (maxSteps:=1000000) only [go_sem,take_all,e,DevV.enc]
    repeat refine ⟨sc,?_⟩
    try exact sf
    try rfl
   ·skip
    have k1:i < recs.length:=by simp only [decide_eq_true_eq] at q; omega
    have hp:=putRec_len gen i recs[i]
    have hin:=hr.2 _ (List.getElem_mem k1)
    have es:=layN_step gen d k1
    rw [← hD] at es
    refine G2 q (List.getElem?_eq_getElem k1) ?_
    refine C0 (c_i_sectorOf _ _) ?_
    refine C0 (c_i_PutRec _ _ recs[i] hin) ?_
    refine .of (c_i_WriteSec D _ _ hk (by omega)) ?_
    try simp -implicitDefEqProofs (maxSteps:=1000000) only [go_sem,take_all]
    repeat refine ⟨sc,?_⟩
    try exact sf
    refine ⟨(true,i + 1,D.write (secOf gen i) (putRec gen i recs[i])),?_,⟨k1,es,write_ok hk _ _,fun h=>by cases h⟩,by simp only; omega⟩
    rw [IntWalk.i64_in _ (by omega)]
    rfl
def x_s_NextOk:FnX:=⟨27,[.tmp 4],
  .q [.F 4]
 (.seq (.block 0 (.q [.m 6 0,.op 7 (.call 120 [0,0,0] [(.t 6),(.i 0),(.i 4)]),.m 8 7,.y 8 (.m 9 1),.y 8 (.m 10 0),.y 8 (.B 11 .add 10 1),.y 8 (.b 12 .eql 9 11),.a 13 8 12,.m 5 13]
 (.cond 5 (.q [.T 4]
 .ret) (.q [.m 15 0,.op 16 (.call 120 [0,0,0] [(.t 15),(.i 0),(.i 3)]),.m 17 16,.y 17 (.m 18 1),.y 17 (.B 19 .eql 18 6),.a 20 17 19,.m 14 20]
 (.c 14 (.q [.T 4]
 .ret))))))
 (.q [.m 21 0,.B 22 .eql 21 6,.m 23 22,.y 23 (.m 24 1),.y 23 (.B 25 .eql 24 7),.a 26 23 25,.m 4 26]
 .ret))⟩
theorem r_s_NextOk {Te:TE} (c_s_l1In:C_s_l1In Te):C_s_NextOk (RF Te x_s_NextOk):=by
 intro a b
 refine run0 ?_
 simp -implicitDefEqProofs (maxSteps:=1000000) only [x_s_NextOk,go_sem,nextOk]
 repeat refine ⟨sc,?_⟩
 try exact sf
 refine C0 (c_s_l1In _ _ _) ?_
 cases g1:win a 0 4
 ·refine G0 ?_
  refine C0 (c_s_l1In _ _ _) ?_
  cases g2:win a 0 3
  ·refine G0 ?_
   refine bif_cases (fun h=>?_) (fun h=>?_) <;> simp -implicitDefEqProofs (maxSteps:=1000000) only [h,go_sem]
  ·refine G0 ?_
   refine ⟨fun k=>?_,fun k=>?_⟩
   ·exact F1 k
   ·refine G1 k ?_
    refine bif_cases (fun h=>?_) (fun h=>?_) <;> simp -implicitDefEqProofs (maxSteps:=1000000) only [h,k,go_sem]
 ·refine G0 ?_
  refine ⟨fun j=>?_,fun j=>?_⟩
  ·exact F1 j
  ·refine G1 j ?_
   refine C0 (c_s_l1In _ _ _) ?_
   cases g2:win a 0 3
   ·refine G0 ?_
    refine bif_cases (fun h=>?_) (fun h=>?_) <;> simp -implicitDefEqProofs (maxSteps:=1000000) only [h,j,go_sem]
   ·refine G0 ?_
    refine ⟨fun k=>?_,fun k=>?_⟩
    ·exact F2 k j
    ·refine G1 k ?_
     refine bif_cases (fun h=>?_) (fun h=>?_) <;> simp -implicitDefEqProofs (maxSteps:=1000000) only [h,k,j,go_sem]
def x_s_Signs:FnX:=⟨33,[.tmp 2,.tmp 3],
  .q [.op 2 (.mv (.k (.one (.nils 1)))),.F 3]
 (.q [.op 10 (.bslice 1 []),.m 4 10]
 (.q [.m 11 0,.op 12 (.conv .s2b (.t 11)),.m 5 12]
 (.seq (.q [.i 6 0]
 (.block 0 (.loop [4,5,6] (.seq (.q [.m 13 6,.m 14 5,.n 15 14,.b 16 .lss 13 15]
 (.cond 16 .skip (.exit 0)))
 (.block 1 (.q [.m 18 5,.m 19 6,.c 20 272 [18,19],.m 17 20,.e 21 17 0,.e 22 17 1,.e 23 17 2,.m 7 21,.m 8 22,.m 9 23]
 (.seq (.q [.m 24 9,.N 25 24]
 (.c 25 (.q [.op 26 (.bslice 1 []),.m 2 26,.F 3]
 .ret)))
 (.q [.m 27 4,.m 28 7,.op 29 (.bslice 1 [(.t 28)]),.op 30 (.app 1 8 (.t 27) (.t 29)),.m 4 30]
 (.reg [.m 31 8,.m 6 31])))))))))
 (.norm [4] (.q [.m 32 4,.m 2 32,.T 3]
 .ret)))))⟩
theorem r_s_Signs {Te:TE} (c_s_GetSign:C_s_GetSign Te):C_s_Signs (RF Te x_s_Signs):=by
 intro s hs
 have hsz:=sizeL s
 refine X0 x_s_Signs.eq_1 ?_
 generalize eB:s.data.toList=B at hsz
 have eS:signsOf s=if Lib.validD B=true then (signs B,true) else ([],false):=by rw [signsOf,eB]
 refine loop_of (σ:=Nat×List Int) (fun x=>⟨[(4,.one (.rf 34 0 [] 1 0 x.2.length)),(5,.one (.rf 35 0 [] 1 0 B.length)),(6,.one (.pv (.int .i64 x.1)))],[],[(0,[sT s]),(34,[slT true 1 iR x.2]),(35,[slT true 1 uR B])]⟩) (fun x=>x.1≤B.length∧x.2.length≤x.1∧x.2++signs (B.drop x.1)=signs B∧Lib.validD (B.drop x.1)=Lib.validD B) (fun x=>B.length - x.1) (0,[]) ?_ ⟨Nat.zero_le _,Nat.le_refl _,rfl,rfl⟩ ?_
 ·simp -implicitDefEqProofs (maxSteps:=1000000) only [go_sem,ofBytes,byteT,eB]
  try rfl
 ·rintro ⟨p,acc⟩ ⟨hp,hl,ha,hv⟩
  simp only at hp hl ha hv
  cases q:decide ((p:Int) < (B.length:Int))
  ·have hd:B.drop p=[]:=List.drop_eq_nil_of_le (by simp only [decide_eq_false_iff_not] at q; omega)
   rw [hd,signs_nil,List.append_nil] at ha
   rw [hd,Lib.validD_nil] at hv
   rw [← hv,if_pos rfl,← ha] at eS
   have ea:List.take acc.length (List.map iR acc)=List.map iR acc:=take_map iR acc
   exact F3 q eS ea
  ·have k1:p < B.length:=by simp only [decide_eq_true_eq] at q; omega
   have hne:B.drop p≠[]:=by
    intro e
    have:=congrArg List.length e
    simp only [List.length_drop,List.length_nil] at this
    omega
   have hw:=Lib.decodeL_width (B.drop p)
   have hc:=decodeL_bound (B.drop p)
   have hle:=Lib.decodeL_le _ hne
   rw [List.length_drop] at hle
   rw [signs_step hne,List.drop_drop] at ha
   rw [Lib.validD_step _ hne,List.drop_drop] at hv
   have eg:getSign B p=match signAt (B.drop p) with | some d=>((d.1:Int),(p:Int) + (d.2:Nat),true) | none=>(0,0,false):=by
    rw [getSign,if_pos (by omega)]; rfl
   refine G1 q ?_
   refine C0 (c_s_GetSign B p (by omega)) ?_
   by_cases hb:(Lib.decodeL (B.drop p)).1=65533∧(Lib.decodeL (B.drop p)).2=1
   ·rw [signAt,if_pos hb] at eg
    rw [if_pos hb] at hv
    rw [← hv] at eS
    exact F2 eg eS
   ·rw [signAt,if_neg hb] at eg
    rw [if_neg hb] at hv
    generalize Lib.decodeL (B.drop p)=d at hw hc hle ha hv eg
    have ea:List.take acc.length (List.map iR acc)=List.map iR acc:=take_map iR acc
    have eb:List.map iR acc++[[Tr.pv (Value.int .i64 ((d.1:Nat):Int))]]=List.map iR (acc++[((d.1:Nat):Int)]):=by simp
    refine G3 eg ea eb ?_
    refine ⟨(p + d.2,acc++[((d.1:Nat):Int)]),?_,⟨by omega,by simp only [List.length_append,List.length_cons,List.length_nil]; omega,by rw [← ha]; simp,hv⟩,by simp only; omega⟩
    simp only [List.length_append]
    rfl
def x_i_putIn:FnX:=⟨37,[.tmp 6,.tmp 7],
  .q [.op 6 (.mv (.k (.one (.nils 1)))),.F 7]
 (.seq (.q [.m 10 0]
 (.block 0 (.q [.B 12 .eql 10 0,.m 11 12]
 (.cond 11 (.q [.m 13 1,.m 14 2,.c 15 186 [13,14],.m 6 15,.T 7]
 .ret) (.q [.B 17 .eql 10 5,.m 16 17]
 (.c 16 (.q [.m 18 1,.m 19 2,.c 20 370 [18,19],.e 21 20 0,.e 22 20 1,.m 6 21,.m 7 22]
 .ret)))))))
 (.q [.m 24 0,.m 25 2,.c 26 371 [24,25],.m 23 26,.e 27 23 0,.e 28 23 1,.m 8 27,.m 9 28]
 (.seq (.q [.m 29 9,.N 30 29]
 (.c 30 (.q [.m 31 1,.m 6 31,.F 7]
 .ret)))
 (.q [.m 32 1,.m 33 8,.op 34 (.conv (.int .u8) (.t 33)),.op 35 (.bslice 1 [(.t 34)]),.op 36 (.app 1 1 (.t 32) (.t 35)),.m 6 36,.T 7]
 .ret))))⟩
theorem r_i_putIn {Te:TE} (c_i_PutSign:C_i_PutSign Te) (c_i_PutEuc:C_i_PutEuc Te) (c_i_SignByte:C_i_SignByte Te):C_i_putIn (RF Te x_i_putIn):=by
 intro cs b n hb
 refine X0 x_i_putIn.eq_1 ?_
 cases h:(cs==0)
 ·cases h5:(cs==5)
  ·have el:putLeft cs b n = .no ():=by rw [putLeft,h,h5]; rfl
   refine G2 h h5 ?_
   refine C0 (c_i_SignByte _ _) ?_
   cases g:(signByte cs n).2
   ·have e:=putIn_no h h5 g b
    exact F3 g e el
   ·have e:=putIn_yes h h5 g b
    try simp -implicitDefEqProofs (maxSteps:=1000000) only [go_sem,g,mkU_wrap,app1B,take1B,e,el,take_rows]
    repeat refine ⟨sc,?_⟩
    try exact sf
    try rfl
  ·have el:putLeft cs b n=slT true 1 uR b:=by rw [putLeft,h,h5]; rfl
   have e:=putIn_euc h h5 b n
   refine G2 h h5 ?_
   exact D2 (c_i_PutEuc b n hb) e el
 ·have el:putLeft cs b n=slT true 1 uR b:=by rw [putLeft,h]; rfl
  have e:=putIn_utf h b n
  refine G1 h ?_
  exact D2 (c_i_PutSign b n hb) e el
def x_s_l5Put:FnX:=⟨43,[.tmp 6,.tmp 7],
  .q [.op 6 (.mv (.k (.one (.nils 1)))),.F 7]
 (.seq (.q [.m 10 0]
 (.block 0 (.q [.B 12 .eql 10 0,.m 11 12]
 (.cond 11 (.q [.m 13 1,.m 14 2,.c 15 189 [13,14],.m 16 2,.c 17 275 [16],.m 6 15,.m 7 17]
 .ret) (.q [.B 19 .eql 10 5,.m 18 19]
 (.c 18 (.q [.m 20 1,.m 21 2,.c 22 321 [20,21],.e 23 22 0,.e 24 22 1,.m 6 23,.m 7 24]
 .ret)))))))
 (.q [.m 26 0,.m 27 2,.c 28 322 [26,27],.m 25 28,.e 29 25 0,.e 30 25 1,.m 8 29,.m 9 30]
 (.seq (.q [.m 31 9,.N 32 31]
 (.c 32 (.q [.op 33 (.bslice 1 []),.m 34 1,.op 35 (.app 1 1 (.t 33) (.t 34)),.m 6 35,.F 7]
 .ret)))
 (.q [.op 36 (.bslice 1 []),.m 37 1,.op 38 (.app 1 1 (.t 36) (.t 37)),.m 39 8,.op 40 (.conv (.int .u8) (.t 39)),.op 41 (.bslice 1 [(.t 40)]),.op 42 (.app 1 1 (.t 38) (.t 41)),.m 6 42,.T 7]
 .ret))))⟩
theorem r_s_l5Put {Te:TE} (c_s_PutSign:C_s_PutSign Te) (c_s_SignOk:C_s_SignOk Te) (c_s_PutEuc:C_s_PutEuc Te) (c_s_SignByte:C_s_SignByte Te):C_s_l5Put (RF Te x_s_l5Put):=by
 intro cs b n hb hn
 refine X0 x_s_l5Put.eq_1 ?_
 cases h:(cs==0)
 ·cases h5:(cs==5)
  ·refine G2 h h5 ?_
   refine C0 (c_s_SignByte _ _) ?_
   cases g:(signByte cs n).2
   ·have e:=putIn_no h h5 g b
    exact F2 g e
   ·have e:=putIn_yes h h5 g b
    try simp -implicitDefEqProofs (maxSteps:=1000000) only [go_sem,g,mkU_wrap,app1B,take1B,e,take_rows]
    repeat refine ⟨sc,?_⟩
    try exact sf
    try rfl
  ·have e:=putIn_euc h h5 b n
   refine G2 h h5 ?_
   exact D1 (c_s_PutEuc b n hb) e
 ·have e:=putIn_utf h b n
  refine G1 h ?_
  refine C0 (c_s_PutSign b n hb) ?_
  exact D2 (c_s_SignOk n) hn e
def x_i_SignByte:FnX:=⟨26,[.tmp 4,.tmp 5],
  .q [.i 4 0,.F 5]
 (.seq (.q [.i 6 0]
 (.block 0 (.loop [0,1,6] (.seq (.q [.m 9 6,.B 10 .leq 9 255]
 (.cond 10 .skip (.exit 0)))
 (.seq (.block 1 (.q [.m 14 0,.m 15 6,.c 16 269 [14,15],.m 13 16,.e 17 13 0,.e 18 13 1,.m 7 17,.m 8 18]
 (.q [.m 19 8,.m 20 19,.y 20 (.m 21 7),.y 20 (.m 22 1),.y 20 (.b 23 .eql 21 22),.a 24 20 23]
 (.c 24 (.q [.m 25 6,.m 4 25,.T 5]
 .ret)))))
 (.reg [.m 11 6,.B 12 .add 11 1,.m 6 12]))))))
 (.norm [] (.q [.i 4 0,.F 5]
 .ret)))⟩
theorem r_i_SignByte {Te:TE} (c_i_ByteSign:C_i_ByteSign Te):C_i_SignByte (RF Te x_i_SignByte):=by
 intro cs n
 refine X0 x_i_SignByte.eq_1 ?_
 refine loop_of (σ:=Nat) (fun i=>⟨[(0,.one (.pv (.int .i64 cs))),(1,.one (.pv (.int .i64 n))),(6,.one (.pv (.int .i64 i)))],[],[(0,[iT cs]),(1,[iT n])]⟩) (fun i=>i≤256∧∀ j,j < i→sbHit cs n j=false) (fun i=>256 - i) 0 ?_ ⟨Nat.zero_le _,fun j h=>absurd h (Nat.not_lt_zero _)⟩ ?_
 ·simp -implicitDefEqProofs (maxSteps:=1000000) only [go_sem]
  try rfl
 ·rintro i ⟨hi,hp⟩
  cases q:decide ((i:Int)≤255)
  ·have e:=signByte_none (cs:=cs) (n:=n) fun j hj=>hp j (by simp only [decide_eq_false_iff_not] at q; omega)
   exact F2 q e
  ·have k1:i < 256:=by simp only [decide_eq_true_eq] at q; omega
   refine G1 q ?_
   refine C0 (c_i_ByteSign _ _) ?_
   cases g1:(byteSign cs i).2
   ·have g:sbHit cs n i=false:=by rw [sbHit,g1]; rfl
    refine G1 g1 ?_
    refine ⟨i + 1,?_,⟨k1,fun j hj=>by
     by_cases e:j=i
     ·subst e; exact g
     ·exact hp j (by omega)⟩,by omega⟩
    rw [IntWalk.i64_in _ (by omega)]
    rfl
   ·cases g2:((byteSign cs i).1==n)
    ·have g:sbHit cs n i=false:=by rw [sbHit,g1,g2]; rfl
     refine G2 g1 g2 ?_
     refine ⟨i + 1,?_,⟨k1,fun j hj=>by
      by_cases e:j=i
      ·subst e; exact g
      ·exact hp j (by omega)⟩,by omega⟩
     rw [IntWalk.i64_in _ (by omega)]
     rfl
    ·have e:=signByte_hit k1 hp (by rw [sbHit,g1,g2]; rfl)
     exact F3 g1 g2 e
def x_s_SignByte:FnX:=⟨26,[.tmp 4,.tmp 5],
  .q [.i 4 0,.F 5]
 (.seq (.q [.i 6 0]
 (.block 0 (.loop [0,1,6] (.seq (.q [.m 9 6,.B 10 .lss 9 256]
 (.cond 10 .skip (.exit 0)))
 (.seq (.block 1 (.q [.m 14 0,.m 15 6,.c 16 274 [14,15],.m 13 16,.e 17 13 0,.e 18 13 1,.m 7 17,.m 8 18]
 (.q [.m 19 8,.m 20 19,.y 20 (.m 21 7),.y 20 (.m 22 1),.y 20 (.b 23 .eql 21 22),.a 24 20 23]
 (.c 24 (.q [.m 25 6,.m 4 25,.T 5]
 .ret)))))
 (.reg [.m 11 6,.B 12 .add 11 1,.m 6 12]))))))
 (.norm [] (.q [.i 4 0,.F 5]
 .ret)))⟩
theorem r_s_SignByte {Te:TE} (c_s_ByteSign:C_s_ByteSign Te):C_s_SignByte (RF Te x_s_SignByte):=by
 intro cs n
 refine X0 x_s_SignByte.eq_1 ?_
 refine loop_of (σ:=Nat) (fun i=>⟨[(0,.one (.pv (.int .i64 cs))),(1,.one (.pv (.int .i64 n))),(6,.one (.pv (.int .i64 i)))],[],[(0,[iT cs]),(1,[iT n])]⟩) (fun i=>i≤256∧∀ j,j < i→sbHit cs n j=false) (fun i=>256 - i) 0 ?_ ⟨Nat.zero_le _,fun j h=>absurd h (Nat.not_lt_zero _)⟩ ?_
 ·simp -implicitDefEqProofs (maxSteps:=1000000) only [go_sem]
  try rfl
 ·rintro i ⟨hi,hp⟩
  cases q:decide ((i:Int) < 256)
  ·have e:=signByte_none (cs:=cs) (n:=n) fun j hj=>hp j (by simp only [decide_eq_false_iff_not] at q; omega)
   exact F2 q e
  ·have k1:i < 256:=by simp only [decide_eq_true_eq] at q; omega
   refine G1 q ?_
   refine C0 (c_s_ByteSign _ _) ?_
   cases g1:(byteSign cs i).2
   ·have g:sbHit cs n i=false:=by rw [sbHit,g1]; rfl
    refine G1 g1 ?_
    refine ⟨i + 1,?_,⟨k1,fun j hj=>by
     by_cases e:j=i
     ·subst e; exact g
     ·exact hp j (by omega)⟩,by omega⟩
    rw [IntWalk.i64_in _ (by omega)]
    rfl
   ·cases g2:((byteSign cs i).1==n)
    ·have g:sbHit cs n i=false:=by rw [sbHit,g1,g2]; rfl
     refine G2 g1 g2 ?_
     refine ⟨i + 1,?_,⟨k1,fun j hj=>by
      by_cases e:j=i
      ·subst e; exact g
      ·exact hp j (by omega)⟩,by omega⟩
     rw [IntWalk.i64_in _ (by omega)]
     rfl
    ·have e:=signByte_hit k1 hp (by rw [sbHit,g1,g2]; rfl)
     exact F3 g1 g2 e
def x_i_SignPair:FnX:=⟨17,[.tmp 2,.tmp 3,.tmp 4],
  .q [.i 2 0,.i 3 0,.F 4]
 (.seq (.block 0 (.q [.m 6 0,.op 7 (.call 90 [0,0,0] [(.t 6),(.i 12353),(.i 12435)]),.m 5 7]
 (.cond 5 (.q [.m 8 0,.B 9 .sub 8 12353,.B 10 .add 9 161,.i 2 164,.m 3 10,.T 4]
 .ret) (.q [.m 12 0,.op 13 (.call 90 [0,0,0] [(.t 12),(.i 12449),(.i 12534)]),.m 11 13]
 (.c 11 (.q [.m 14 0,.B 15 .sub 14 12449,.B 16 .add 15 161,.i 2 165,.m 3 16,.T 4]
 .ret))))))
 (.q [.i 2 0,.i 3 0,.F 4]
 .ret))⟩
theorem r_i_SignPair {Te:TE} (c_i_within:C_i_within Te):C_i_SignPair (RF Te x_i_SignPair):=by
 intro n
 refine X0 x_i_SignPair.eq_1 ?_
 refine C0 (c_i_within _ _ _) ?_
 cases g:win n 12353 12435
 ·refine G0 ?_
  refine C0 (c_i_within _ _ _) ?_
  cases g2:win n 12449 12534
  ·have e:signPair n=(0,0,false):=by rw [signPair,g,g2]; rfl
   exact F1 e
  ·have e:signPair n=(165,n - 12449 + 161,true):=by rw [signPair,g,g2]; rfl
   simp only [win,Bool.and_eq_true,decide_eq_true_eq] at g2
   have w1:IntKind.i64.wrap (n - 12449)=n - 12449:=IntWalk.i64_in _ (by omega)
   have w2:IntKind.i64.wrap (n - 12449 + 161)=n - 12449 + 161:=IntWalk.i64_in _ (by omega)
   exact F3 e w1 w2
 ·have e:signPair n=(164,n - 12353 + 161,true):=by rw [signPair,g]; rfl
  simp only [win,Bool.and_eq_true,decide_eq_true_eq] at g
  have w1:IntKind.i64.wrap (n - 12353)=n - 12353:=IntWalk.i64_in _ (by omega)
  have w2:IntKind.i64.wrap (n - 12353 + 161)=n - 12353 + 161:=IntWalk.i64_in _ (by omega)
  exact F3 e w1 w2
def x_s_SignPair:FnX:=⟨17,[.tmp 2,.tmp 3,.tmp 4],
  .q [.i 2 0,.i 3 0,.F 4]
 (.seq (.block 0 (.q [.m 6 0,.op 7 (.call 120 [0,0,0] [(.t 6),(.i 12353),(.i 12435)]),.m 5 7]
 (.cond 5 (.q [.m 8 0,.B 9 .sub 8 12353,.B 10 .add 9 161,.i 2 164,.m 3 10,.T 4]
 .ret) (.q [.m 12 0,.op 13 (.call 120 [0,0,0] [(.t 12),(.i 12449),(.i 12534)]),.m 11 13]
 (.c 11 (.q [.m 14 0,.B 15 .sub 14 12449,.B 16 .add 15 161,.i 2 165,.m 3 16,.T 4]
 .ret))))))
 (.q [.i 2 0,.i 3 0,.F 4]
 .ret))⟩
theorem r_s_SignPair {Te:TE} (c_s_l1In:C_s_l1In Te):C_s_SignPair (RF Te x_s_SignPair):=by
 intro n
 refine X0 x_s_SignPair.eq_1 ?_
 refine C0 (c_s_l1In _ _ _) ?_
 cases g:win n 12353 12435
 ·refine G0 ?_
  refine C0 (c_s_l1In _ _ _) ?_
  cases g2:win n 12449 12534
  ·have e:signPair n=(0,0,false):=by rw [signPair,g,g2]; rfl
   exact F1 e
  ·have e:signPair n=(165,n - 12449 + 161,true):=by rw [signPair,g,g2]; rfl
   simp only [win,Bool.and_eq_true,decide_eq_true_eq] at g2
   have w1:IntKind.i64.wrap (n - 12449)=n - 12449:=IntWalk.i64_in _ (by omega)
   have w2:IntKind.i64.wrap (n - 12449 + 161)=n - 12449 + 161:=IntWalk.i64_in _ (by omega)
   exact F3 e w1 w2
 ·have e:signPair n=(164,n - 12353 + 161,true):=by rw [signPair,g]; rfl
  simp only [win,Bool.and_eq_true,decide_eq_true_eq] at g
  have w1:IntKind.i64.wrap (n - 12353)=n - 12353:=IntWalk.i64_in _ (by omega)
  have w2:IntKind.i64.wrap (n - 12353 + 161)=n - 12353 + 161:=IntWalk.i64_in _ (by omega)
  exact F3 e w1 w2
def x_s_CellOf:FnX:=⟨25,[.cell 4 (some 2),.tmp 5],
  .q [.op 4 (.alloc [.i 0,.nils 1]),.F 5]
 (.q [.m 9 0,.m 10 1,.c 11 182 [9,10],.m 8 11,.e 12 8 0,.e 13 8 1,.m 6 12,.m 7 13]
 (.seq (.q [.m 14 7,.N 15 14,.m 16 15,.z 16 (.m 17 6),.z 16 (.n 18 17),.z 16 (.B 19 .gtr 18 20),.r 20 16 19]
 (.c 20 (.q [.op 21 (.build [.i 0,.nils 1] []),.s 100001 2 4 21,.F 5]
 .ret)))
 (.q [.m 22 0,.m 23 6,.op 24 (.build [.i 0,.nils 1] [(0,1,(.t 22)),(1,1,(.t 23))]),.s 100002 2 4 24,.T 5]
 .ret)))⟩
theorem r_s_CellOf {Te:TE} (c_s_Encode:C_s_Encode Te):C_s_CellOf (RF Te x_s_CellOf):=by
 intro tag s hs
 have hl:=encode_len tag s
 refine X0 x_s_CellOf.eq_1 ?_
 refine C0 (c_s_Encode tag s hs) ?_
 cases g:(encode tag s).2
 ·have e:=cellOf_no g
  exact F2 g e
 cases g2:decide (((encode tag s).1.length:Int)≤20)
 ·have e:=cellOf_big g2
  have g3:decide (((encode tag s).1.length:Int) > 20)=true:=by simp only [decide_eq_false_iff_not] at g2; exact decide_eq_true (by omega)
  exact F3 g g3 e
 ·have e:=cellOf_yes g g2
  have g3:decide (((encode tag s).1.length:Int) > 20)=false:=by simp only [decide_eq_true_eq] at g2; exact decide_eq_false (by omega)
  exact F3 g g3 e
def x_i_Turn:FnX:=⟨29,[.cell 4 (some 2),.tmp 5],
  .q [.v 2 0,.op 4 (.alloc [.i 0,.nils 1]),.F 5]
 (.q [.L 10 2 2,.c 11 177 [10],.m 9 11,.e 12 9 0,.e 13 9 1,.m 6 12,.m 7 13]
 (.seq (.q [.m 14 7,.N 15 14]
 (.c 15 (.q [.L 16 2 2,.c 17 304 [16],.s 100001 2 4 17,.F 5]
 .ret)))
 (.q [.m 19 1,.m 20 6,.c 21 251 [19,20],.m 18 21,.e 22 18 0,.e 23 18 1,.op 8 (.alloc [.i 0,.nils 1]),.s 100002 2 8 22,.m 7 23]
 (.seq (.q [.m 24 7,.N 25 24]
 (.c 25 (.q [.L 26 2 2,.c 27 304 [26],.s 100003 2 4 27,.F 5]
 .ret)))
 (.q [.L 28 2 8,.s 100004 2 4 28,.T 5]
 .ret)))))⟩
theorem r_i_Turn {Te:TE} (c_i_CellText:C_i_CellText Te) (c_i_copyCell:C_i_copyCell Te) (c_i_CellOf:C_i_CellOf Te):C_i_Turn (RF Te x_i_Turn):=by
 intro c tag hc hs
 refine X0 x_i_Turn.eq_1 ?_
 refine C0 (c_i_CellText c) ?_
 cases g:c.text.2
 ·have e:=turn_no (tag:=tag) g
  refine G1 g ?_
  exact D1 (c_i_copyCell c hc) e
 refine G1 g ?_
 refine C0 (c_i_CellOf tag c.text.1 hs) ?_
 cases g2:(cellOf tag c.text.1).2
 ·have e:=turn_big (c:=c) g2
  refine G1 g2 ?_
  exact D1 (c_i_copyCell c hc) e
 ·have e:=turn_yes g g2
  exact F2 g2 e
def x_s_Turn:FnX:=⟨30,[.cell 4 (some 2),.tmp 5],
  .q [.v 2 0,.op 4 (.alloc [.i 0,.nils 1]),.F 5]
 (.q [.L 11 2 2,.c 12 197 [11],.m 10 12,.e 13 10 0,.e 14 10 1,.m 6 13,.m 7 14]
 (.q [.m 16 1,.m 17 6,.c 18 200 [16,17],.m 15 18,.e 19 15 0,.e 20 15 1,.op 8 (.alloc [.i 0,.nils 1]),.s 100001 2 8 19,.m 9 20]
 (.seq (.q [.m 21 7,.N 22 21,.m 23 22,.z 23 (.m 24 9),.z 23 (.N 25 24),.r 26 23 25]
 (.c 26 (.q [.L 27 2 2,.c 28 338 [27],.s 100002 2 4 28,.F 5]
 .ret)))
 (.q [.L 29 2 8,.s 100003 2 4 29,.T 5]
 .ret))))⟩
theorem r_s_Turn {Te:TE} (c_s_CellText:C_s_CellText Te) (c_s_CellOf:C_s_CellOf Te) (c_s_l8Copy:C_s_l8Copy Te):C_s_Turn (RF Te x_s_Turn):=by
 intro c tag hc hs
 refine X0 x_s_Turn.eq_1 ?_
 refine C0 (c_s_CellText c) ?_
 refine C0 (c_s_CellOf tag c.text.1 hs) ?_
 cases g:c.text.2
 ·have e:=turn_no (tag:=tag) g
  refine G1 g ?_
  exact D1 (c_s_l8Copy c hc) e
 cases g2:(cellOf tag c.text.1).2
 ·have e:=turn_big (c:=c) g2
  refine G2 g g2 ?_
  exact D1 (c_s_l8Copy c hc) e
 ·have e:=turn_yes g g2
  exact F3 g g2 e
def x_s_l2Len:FnX:=⟨18,[.tmp 2],
  .q [.i 2 0]
 (.seq (.block 0 (.q [.m 4 0,.op 5 (.bin .lss (.t 4) (.k (.one (.pv (.int .u8 128))))),.m 3 5]
 (.cond 3 (.q [.i 2 1]
 .ret) (.q [.m 7 0,.op 8 (.conv (.int .i64) (.t 7)),.op 9 (.call 120 [0,0,0] [(.t 8),(.i 194),(.i 223)]),.m 6 9]
 (.cond 6 (.q [.i 2 2]
 .ret) (.q [.m 11 0,.op 12 (.conv (.int .i64) (.t 11)),.op 13 (.call 120 [0,0,0] [(.t 12),(.i 224),(.i 239)]),.m 10 13]
 (.cond 10 (.q [.i 2 3]
 .ret) (.q [.m 15 0,.op 16 (.conv (.int .i64) (.t 15)),.op 17 (.call 120 [0,0,0] [(.t 16),(.i 240),(.i 244)]),.m 14 17]
 (.c 14 (.q [.i 2 4]
 .ret))))))))))
 (.q [.i 2 0]
 .ret))⟩
theorem r_s_l2Len {Te:TE} (c_s_l1In:C_s_l1In Te):C_s_l2Len (RF Te x_s_l2Len):=by
 intro b
 have hb:=b.toNat_lt
 have w:IntKind.i64.wrap (b.toNat:Int)=(b.toNat:Int):=IntWalk.i64_in _ (by omega)
 cases q1:decide ((b.toNat:Int) < 128)
 ·simp only [decide_eq_false_iff_not] at q1
  have q1':=decide_eq_false q1
  refine X2 x_s_l2Len.eq_1 q1' w ?_
  refine C0 (c_s_l1In _ _ _) ?_
  cases q2:win (b.toNat:Int) 194 223
  ·refine G1 w ?_
   refine C0 (c_s_l1In _ _ _) ?_
   cases q3:win (b.toNat:Int) 224 239
   ·refine G1 w ?_
    refine C0 (c_s_l1In _ _ _) ?_
    cases q4:win (b.toNat:Int) 240 244
    ·have e:l2len b.toNat=0:=by
      simp only [win,Bool.and_eq_false_imp,decide_eq_true_eq,decide_eq_false_iff_not] at q2 q3 q4
      unfold l2len
      rw [if_neg (by omega),if_neg (by omega),if_neg (by omega),if_neg (by omega)]
     exact F1 e
    ·have e:l2len b.toNat=4:=by
      simp only [win,Bool.and_eq_true,decide_eq_true_eq] at q4
      unfold l2len
      rw [if_neg (by omega),if_neg (by omega),if_neg (by omega),if_pos (by omega)]
     exact F1 e
   ·have e:l2len b.toNat=3:=by
     simp only [win,Bool.and_eq_true,decide_eq_true_eq] at q3
     unfold l2len
     rw [if_neg (by omega),if_neg (by omega),if_pos (by omega)]
    exact F1 e
  ·have e:l2len b.toNat=2:=by
    simp only [win,Bool.and_eq_true,decide_eq_true_eq] at q2
    unfold l2len
    rw [if_neg (by omega),if_pos (by omega)]
   exact F1 e
 ·simp only [decide_eq_true_eq] at q1
  have q1':=decide_eq_true q1
  have e:l2len b.toNat=1:=if_pos (by omega)
  refine X2 x_s_l2Len.eq_1 q1' e ?_
  try rfl
end Go.X

