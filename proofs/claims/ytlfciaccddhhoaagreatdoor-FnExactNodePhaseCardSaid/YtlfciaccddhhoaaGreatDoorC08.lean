/- Texts: CVf_2 CVv CF CVg_3 CVze_2 CEb_3 CVs_2 CVx CU CA CVzc_2. -/
import Derived.Test.YtlfciaccddhhoaaGreatDoorC04
set_option linter.unusedVariables false
set_option linter.unusedSimpArgs false
namespace Go.X
set_option maxRecDepth 100000
set_option maxHeartbeats 8000000
def x_i_TabOk:FnX:=⟨85,[.tmp 2],
  .q [.v 1 0,.F 2]
 (.seq (.q [.f 7 1 0,.l 8 7,.n 9 8,.i 10 0]
 (.block 0 (.loop [1,8,9,10] (.q [.b 11 .lss 10 9]
 (.seq (.cond 11 .skip (.exit 0))
 (.seq (.block 1 (.q [.m 12 10,.x 13 7 8 10,.L 14 7 13,.op 4 (.alloc [.e,.i 0,.nils 1,.i 0,.nils 1,.i 0,.F]),.m 3 12,.s 100001 7 4 14]
 (.seq (.draw [.L 15 7 4,.c 16 165 [15],.N 17 16,.m 18 17,.z 18 (.m 19 3),.z 18 (.B 20 .gtr 19 0),.z 18 (.m 21 20),.y 21 (.f 22 1 0),.y 21 (.l 23 22),.y 21 (.m 24 3),.y 21 (.B 25 .sub 24 1),.y 21 (.x 26 7 23 25),.y 21 (.f 27 26 0),.y 21 (.l 28 27),.y 21 (.f 29 4 0),.y 21 (.l 30 29),.y 21 (.b 31 .geq 28 30),.z 18 (.a 32 21 31),.r 33 18 32] [[],[0],[1],[2,1],[3],[4,3],[5,3,3],[6],[7,6],[6],[9,6],[8,10,6],[11,6],[12,6],[6],[14,6],[13,15,6],[6,16,3],[3,17]])
 (.c 33 (.q [.F 2]
 .ret)))))
 (.reg [.B 34 .add 10 1,.m 10 34])))))))
 (.norm [1] (.seq (.q [.f 35 1 2,.l 36 35,.n 37 36,.i 38 0]
 (.block 2 (.loop [1,36,37,38] (.q [.b 39 .lss 38 37]
 (.seq (.cond 39 .skip (.exit 2))
 (.seq (.block 3 (.q [.m 40 38,.x 41 3 36 38,.L 42 3 41,.op 6 (.alloc [.i 0,.i 0,.i 0]),.m 5 40,.s 100002 3 6 42]
 (.seq (.draw [.f 43 6 0,.l 44 43,.op 45 (.call 77 [0,0,0] [(.t 44),(.i 1),(.i 9)]),.N 46 45,.m 47 46,.z 47 (.f 48 6 1),.z 47 (.l 49 48),.z 47 (.c 50 200 [49]),.z 47 (.N 51 50),.r 52 47 51,.m 53 52,.z 53 (.f 54 6 2),.z 53 (.l 55 54),.z 53 (.op 56 (.call 77 [0,0,0] [(.t 55),(.i 0),(.i 6)])),.z 53 (.N 57 56),.r 58 53 57,.m 59 58,.z 59 (.m 60 5),.z 59 (.B 61 .gtr 60 0),.z 59 (.m 62 61),.y 62 (.f 63 1 2),.y 62 (.l 64 63),.y 62 (.m 65 5),.y 62 (.B 66 .sub 65 1),.y 62 (.x 67 3 64 66),.y 62 (.f 68 67 0),.y 62 (.l 69 68),.y 62 (.f 70 6 0),.y 62 (.l 71 70),.y 62 (.b 72 .geq 69 71),.z 59 (.a 73 62 72),.r 74 59 73] [[],[0],[1],[2],[3,2],[4],[5,4],[6,4,4],[7,4],[4,8],[9,7],[10],[11,10],[12,10,10],[13,10],[10,14],[15,13],[16],[17,16],[18,16,16],[19],[20,19],[19],[22,19],[21,23,19],[24,19],[25,19],[19],[27,19],[26,28,19],[19,29,16],[16,30]])
 (.c 74 (.q [.F 2]
 .ret)))))
 (.reg [.B 75 .add 38 1,.m 38 75])))))))
 (.norm [1] (.q [.f 76 1 0,.l 77 76,.n 78 77,.B 79 .leq 78 8,.m 80 79,.y 80 (.f 81 1 1),.y 80 (.l 82 81),.y 80 (.op 83 (.call 77 [0,0,0] [(.t 82),(.i 0),(.i 7)])),.a 84 80 83,.m 2 84]
 .ret)))))⟩
theorem r_i_TabOk {Te:TE} (c_i_RowOk:C_i_RowOk Te) (c_i_within:C_i_within Te) (c_i_isWord:C_i_isWord Te):C_i_TabOk (RF Te x_i_TabOk):=by
 intro t h
 obtain ⟨⟨hl,hR⟩,hM⟩:=h
 refine X0 x_i_TabOk.eq_1 ?_
 refine loop_of (σ:=Nat) (fun i=>⟨[(1,.bp 1 0),(8,.one (.ro 7 (t.Rows.map (RowV.enc false)))),(9,.one (.pv (.int .i64 t.Rows.length))),(10,.one (.pv (.int .i64 i)))],[(1,[.ro 7 (t.Rows.map (RowV.enc false)),.pv (.int .i64 t.Phase),.ro 3 (t.Marks.map MarkV.row)])],[(0,t.enc false)]⟩) (fun i=>i≤t.Rows.length∧∀ j,j < i→rowGood t.Rows j=true) (fun i=>t.Rows.length - i) 0 ?_ ⟨Nat.zero_le _,fun j hj=>absurd hj (Nat.not_lt_zero _)⟩ ?_
 ·simp -implicitDefEqProofs (maxSteps:=1000000) only [go_sem]
  try rfl
 ·rintro i ⟨hi,hp⟩
  cases q:decide ((i:Int) < (t.Rows.length:Int))
  ·have eR:=rng_end (f:=rowGood t.Rows) (show t.Rows.length≤i by simp only [decide_eq_false_iff_not] at q; omega) hp
   refine G1 q ?_
   refine loop_of (σ:=Nat) (fun i=>⟨[(1,.bp 1 0),(36,.one (.ro 3 (t.Marks.map MarkV.row))),(37,.one (.pv (.int .i64 t.Marks.length))),(38,.one (.pv (.int .i64 i)))],[(1,[.ro 7 (t.Rows.map (RowV.enc false)),.pv (.int .i64 t.Phase),.ro 3 (t.Marks.map MarkV.row)])],[(0,t.enc false)]⟩) (fun i=>i≤t.Marks.length∧∀ j,j < i→markGood t.Marks j=true) (fun i=>t.Marks.length - i) 0 ?_ ⟨Nat.zero_le _,fun j hj=>absurd hj (Nat.not_lt_zero _)⟩ ?_
   ·simp -implicitDefEqProofs (maxSteps:=1000000) only [go_sem]
    try rfl
   ·rintro i ⟨hi,hp⟩
    cases q:decide ((i:Int) < (t.Marks.length:Int))
    ·have eM:=rng_end (f:=markGood t.Marks) (show t.Marks.length≤i by simp only [decide_eq_false_iff_not] at q; omega) hp
     refine G1 q ?_
     cases gl:decide ((t.Rows.length:Int)≤8)
     ·have e:t.ok=false:=by simp only [TabV.ok,gl,Bool.and_false,Bool.false_and]
      exact F2 gl e
     ·have e:t.ok=win t.Phase 0 7:=by simp only [TabV.ok,eR,eM,gl,Bool.true_and]
      refine G1 gl ?_
      exact D1 (c_i_within _ _ _) e
    ·have k1:i < t.Marks.length:=by simp only [decide_eq_true_eq] at q; omega
     cases i with
     | zero =>
      have z:decide (((0:Nat):Int) > 0)=false:=rfl
      have good0:=markGood_zero k1
      refine G3 q (List.getElem?_eq_getElem k1) z ?_
      refine C0 (c_i_within _ _ _) ?_
      cases a1:win t.Marks[0].Who 1 9
      ·have g:t.Marks[0].ok=false:=by simp only [MarkV.ok,a1,Bool.false_and]
       have e:t.ok=false:=by simp only [TabV.ok,rng_not k1 (good0.trans g),Bool.and_false,Bool.false_and]
       exact F1 e
      refine G0 ?_
      refine C0 (c_i_isWord _) ?_
      cases a2:win t.Marks[0].Seq 0 65535
      ·have g:t.Marks[0].ok=false:=by simp only [MarkV.ok,a2,Bool.and_false,Bool.false_and]
       have e:t.ok=false:=by simp only [TabV.ok,rng_not k1 (good0.trans g),Bool.and_false,Bool.false_and]
       exact F1 e
      refine G0 ?_
      refine C0 (c_i_within _ _ _) ?_
      cases a3:win t.Marks[0].Code 0 6
      ·have g:t.Marks[0].ok=false:=by simp only [MarkV.ok,a3,Bool.and_false]
       have e:t.ok=false:=by simp only [TabV.ok,rng_not k1 (good0.trans g),Bool.and_false,Bool.false_and]
       exact F1 e
      have g:t.Marks[0].ok=true:=by simp only [MarkV.ok,a1,a2,a3,Bool.and_true]
      refine G1 z ?_
      refine ⟨1,by rw [IntWalk.i64_in _ (by omega)]; rfl,⟨k1,rng_step hp (good0.trans g)⟩,by omega⟩
     | succ j =>
      have k0:j < t.Marks.length:=by omega
      have z:decide (((j + 1:Nat):Int) > 0)=true:=decide_eq_true (by omega)
      have ew:IntKind.i64.wrap (((j + 1:Nat):Int) - 1)=(j:Int):=by rw [IntWalk.i64_in _ (by omega)]; omega
      have good1:=markGood_succ k1
      refine G3 q (List.getElem?_eq_getElem k1) z ?_
      refine C0 (c_i_within _ _ _) ?_
      cases a1:win t.Marks[j + 1].Who 1 9
      ·have g:t.Marks[j + 1].ok=false:=by simp only [MarkV.ok,a1,Bool.false_and]
       have gg:markGood t.Marks (j + 1)=false:=by rw [good1,g,Bool.false_and]
       have e:t.ok=false:=by simp only [TabV.ok,rng_not k1 gg,Bool.and_false,Bool.false_and]
       exact F1 e
      refine G0 ?_
      refine C0 (c_i_isWord _) ?_
      cases a2:win t.Marks[j + 1].Seq 0 65535
      ·have g:t.Marks[j + 1].ok=false:=by simp only [MarkV.ok,a2,Bool.and_false,Bool.false_and]
       have gg:markGood t.Marks (j + 1)=false:=by rw [good1,g,Bool.false_and]
       have e:t.ok=false:=by simp only [TabV.ok,rng_not k1 gg,Bool.and_false,Bool.false_and]
       exact F1 e
      refine G0 ?_
      refine C0 (c_i_within _ _ _) ?_
      cases a3:win t.Marks[j + 1].Code 0 6
      ·have g:t.Marks[j + 1].ok=false:=by simp only [MarkV.ok,a3,Bool.and_false]
       have gg:markGood t.Marks (j + 1)=false:=by rw [good1,g,Bool.false_and]
       have e:t.ok=false:=by simp only [TabV.ok,rng_not k1 gg,Bool.and_false,Bool.false_and]
       exact F1 e
      have g:t.Marks[j + 1].ok=true:=by simp only [MarkV.ok,a1,a2,a3,Bool.and_true]
      cases g2:decide (t.Marks[j].Who≥t.Marks[j + 1].Who)
      ·have gg:markGood t.Marks (j + 1)=true:=by rw [good1,g,g2]; rfl
       try simp -implicitDefEqProofs (maxSteps:=1000000) only [go_sem,z,ew,List.getElem?_eq_getElem k0,List.getElem?_eq_getElem k1,g2]
       repeat refine ⟨sc,?_⟩
       try exact sf
       refine ⟨j + 2,by rw [IntWalk.i64_in _ (by omega)]; rfl,⟨k1,rng_step hp gg⟩,by omega⟩
      ·have gg:markGood t.Marks (j + 1)=false:=by rw [good1,g2]; simp only [Bool.not_true,Bool.and_false]
       have e:t.ok=false:=by simp only [TabV.ok,rng_not k1 gg,Bool.and_false,Bool.false_and]
       try simp -implicitDefEqProofs (maxSteps:=1000000) only [go_sem,z,ew,List.getElem?_eq_getElem k0,List.getElem?_eq_getElem k1,g2,e]
       repeat refine ⟨sc,?_⟩
       try exact sf
  ·have k1:i < t.Rows.length:=by simp only [decide_eq_true_eq] at q; omega
   cases i with
   | zero =>
    have z:decide (((0:Nat):Int) > 0)=false:=rfl
    have good0:=rowGood_zero k1
    refine G3 q (List.getElem?_eq_getElem k1) z ?_
    refine C0 (c_i_RowOk t.Rows[0] (hR _ (List.getElem_mem k1))) ?_
    cases g:t.Rows[0].ok
    ·have e:t.ok=false:=by simp only [TabV.ok,rng_not k1 (good0.trans g),Bool.false_and]
     exact F1 e
    ·refine G1 z ?_
     refine ⟨1,by rw [IntWalk.i64_in _ (by omega)]; rfl,⟨k1,rng_step hp (good0.trans g)⟩,by omega⟩
   | succ j =>
    have k0:j < t.Rows.length:=by omega
    have z:decide (((j + 1:Nat):Int) > 0)=true:=decide_eq_true (by omega)
    have ew:IntKind.i64.wrap (((j + 1:Nat):Int) - 1)=(j:Int):=by rw [IntWalk.i64_in _ (by omega)]; omega
    have good1:=rowGood_succ k1
    refine G3 q (List.getElem?_eq_getElem k1) z ?_
    refine C0 (c_i_RowOk t.Rows[j + 1] (hR _ (List.getElem_mem k1))) ?_
    cases g:t.Rows[j + 1].ok
    ·have gg:rowGood t.Rows (j + 1)=false:=by rw [good1,g,Bool.false_and]
     have e:t.ok=false:=by simp only [TabV.ok,rng_not k1 gg,Bool.false_and]
     exact F1 e
    ·cases g2:Op.bytesLess t.Rows[j].Key.toList t.Rows[j + 1].Key.toList
     ·have gg:rowGood t.Rows (j + 1)=false:=by rw [good1,g2,Bool.and_false]
      have e:t.ok=false:=by simp only [TabV.ok,rng_not k1 gg,Bool.false_and]
      try simp -implicitDefEqProofs (maxSteps:=1000000) only [go_sem,z,ew,List.getElem?_eq_getElem k0,List.getElem?_eq_getElem k1,g2,e]
      repeat refine ⟨sc,?_⟩
      try exact sf
     ·have gg:rowGood t.Rows (j + 1)=true:=by rw [good1,g,g2]; rfl
      try simp -implicitDefEqProofs (maxSteps:=1000000) only [go_sem,z,ew,List.getElem?_eq_getElem k0,List.getElem?_eq_getElem k1,g2]
      repeat refine ⟨sc,?_⟩
      try exact sf
      refine ⟨j + 2,by rw [IntWalk.i64_in _ (by omega)]; rfl,⟨k1,rng_step hp gg⟩,by omega⟩
def x_i_MarkAt:FnX:=⟨22,[.cell 4 (some 3),.tmp 5],
  .q [.v 2 0,.op 4 (.alloc [.i 0,.i 0,.i 0]),.F 5]
 (.seq (.q [.f 8 2 2,.l 9 8,.n 10 9,.i 11 0]
 (.block 0 (.loop [1,4,9,10,11] (.q [.b 12 .lss 11 10]
 (.seq (.cond 12 .skip (.exit 0))
 (.seq (.block 1 (.q [.x 13 3 9 11,.L 14 3 13,.op 7 (.alloc [.i 0,.i 0,.i 0]),.s 100001 3 7 14]
 (.q [.f 15 7 0,.l 16 15,.m 17 1,.b 18 .eql 16 17]
 (.c 18 (.q [.L 19 3 7,.s 100002 3 4 19,.T 5]
 .ret)))))
 (.reg [.B 20 .add 11 1,.m 11 20])))))))
 (.norm [4] (.q [.op 21 (.build [.i 0,.i 0,.i 0] []),.s 100003 3 4 21,.F 5]
 .ret)))⟩
theorem r_i_MarkAt {Te:TE}:C_i_MarkAt (RF Te x_i_MarkAt):=by
 intro t who hl
 refine X0 x_i_MarkAt.eq_1 ?_
 refine loop_of (σ:=Nat) (fun i=>⟨[(1,.one (.pv (.int .i64 who))),(4,.bp 4 0),(9,.one (.ro 3 (t.Marks.map MarkV.row))),(10,.one (.pv (.int .i64 t.Marks.length))),(11,.one (.pv (.int .i64 i)))],[(4,[.pv (.int .i64 0),.pv (.int .i64 0),.pv (.int .i64 0)])],[(0,t.enc false),(1,[iT who])]⟩) (fun i=>i≤t.Marks.length∧∀ j (hj:j < t.Marks.length),j < i→(t.Marks[j].Who==who)=false) (fun i=>t.Marks.length - i) 0 ?_ ⟨Nat.zero_le _,fun j _ h=>absurd h (Nat.not_lt_zero _)⟩ ?_
 ·simp -implicitDefEqProofs (maxSteps:=1000000) only [go_sem]
  try rfl
 ·rintro i ⟨hi,hp⟩
  cases q:decide ((i:Int) < (t.Marks.length:Int))
  ·have e:=markAt_none (i:=i) (by simp only [decide_eq_false_iff_not] at q; omega) hp
   exact F2 q e
  ·have k1:i < t.Marks.length:=by simp only [decide_eq_true_eq] at q; omega
   cases g:(t.Marks[i].Who==who)
   ·refine G3 q (List.getElem?_eq_getElem k1) g ?_
    refine ⟨i + 1,?_,⟨k1,markAt_step k1 hp g⟩,by omega⟩
    rw [IntWalk.i64_in _ (by omega)]
    rfl
   ·have e:=markAt_hit k1 hp g
    exact F4 q (List.getElem?_eq_getElem k1) g e
def x_s_MarkAt:FnX:=⟨28,[.cell 4 (some 3),.tmp 5],
  .q [.v 2 0,.op 4 (.alloc [.i 0,.i 0,.i 0]),.F 5]
 (.seq (.q [.i 6 0]
 (.block 0 (.loop [1,2,4,6] (.seq (.q [.m 7 6,.f 8 2 2,.l 9 8,.n 10 9,.b 11 .lss 7 10]
 (.cond 11 .skip (.exit 0)))
 (.seq (.block 1 (.q [.f 14 2 2,.l 15 14,.m 16 6,.x 17 3 15 16,.f 18 17 0,.l 19 18,.m 20 1,.b 21 .eql 19 20]
 (.c 21 (.q [.f 22 2 2,.l 23 22,.m 24 6,.x 25 3 23 24,.L 26 3 25,.s 100001 3 4 26,.T 5]
 .ret))))
 (.reg [.m 12 6,.B 13 .add 12 1,.m 6 13]))))))
 (.norm [4] (.q [.op 27 (.build [.i 0,.i 0,.i 0] []),.s 100002 3 4 27,.F 5]
 .ret)))⟩
theorem r_s_MarkAt {Te:TE}:C_s_MarkAt (RF Te x_s_MarkAt):=by
 intro t who hl
 refine X0 x_s_MarkAt.eq_1 ?_
 refine loop_of (σ:=Nat) (fun i=>⟨[(1,.one (.pv (.int .i64 who))),(2,.bp 2 0),(4,.bp 4 0),(6,.one (.pv (.int .i64 i)))],[(2,[.ro 7 (t.Rows.map (RowV.enc false)),.pv (.int .i64 t.Phase),.ro 3 (t.Marks.map MarkV.row)]),(4,[.pv (.int .i64 0),.pv (.int .i64 0),.pv (.int .i64 0)])],[(0,t.enc false),(1,[iT who])]⟩) (fun i=>i≤t.Marks.length∧∀ j (hj:j < t.Marks.length),j < i→(t.Marks[j].Who==who)=false) (fun i=>t.Marks.length - i) 0 ?_ ⟨Nat.zero_le _,fun j _ h=>absurd h (Nat.not_lt_zero _)⟩ ?_
 ·simp -implicitDefEqProofs (maxSteps:=1000000) only [go_sem]
  try rfl
 ·rintro i ⟨hi,hp⟩
  cases q:decide ((i:Int) < (t.Marks.length:Int))
  ·have e:=markAt_none (i:=i) (by simp only [decide_eq_false_iff_not] at q; omega) hp
   exact F2 q e
  ·have k1:i < t.Marks.length:=by simp only [decide_eq_true_eq] at q; omega
   cases g:(t.Marks[i].Who==who)
   ·refine G3 q (List.getElem?_eq_getElem k1) g ?_
    refine ⟨i + 1,?_,⟨k1,markAt_step k1 hp g⟩,by omega⟩
    rw [IntWalk.i64_in _ (by omega)]
    rfl
   ·have e:=markAt_hit k1 hp g
    exact F4 q (List.getElem?_eq_getElem k1) g e
def x_i_mayAsk:FnX:=⟨11,[.tmp 4],
  .q [.F 4]
 (.q [.m 5 0,.op 6 (.call 77 [0,0,0] [(.t 5),(.i 1),(.i 9)]),.m 7 6,.y 7 (.m 8 1),.y 7 (.op 9 (.call 77 [0,0,0] [(.t 8),(.i 1),(.i 65535)])),.a 10 7 9,.m 4 10]
 .ret)⟩
theorem r_i_mayAsk {Te:TE} (c_i_within:C_i_within Te):C_i_mayAsk (RF Te x_i_mayAsk):=by
 intro who seq
 refine X0 x_i_mayAsk.eq_1 ?_
 refine C0 (c_i_within _ _ _) ?_
 cases g:win who 1 9
 ·exact F0
 ·refine G0 ?_
  exact D0 (c_i_within _ _ _)
def x_i_askedBefore:FnX:=⟨34,[.tmp 6,.tmp 7],
  .q [.v 3 0,.i 6 0,.F 7]
 (.q [.f 11 3 0,.f 12 11 4,.L 13 3 12,.m 14 1,.c 15 90 [13,14],.m 10 15,.e 16 10 0,.e 17 10 1,.op 8 (.alloc [.i 0,.i 0,.i 0]),.s 100001 3 8 16,.m 9 17]
 (.seq (.block 0 (.q [.m 19 9,.N 20 19,.m 21 20,.z 21 (.f 22 8 1),.z 21 (.l 23 22),.z 21 (.m 24 2),.z 21 (.b 25 .lss 23 24),.r 26 21 25,.m 18 26]
 (.cond 18 (.q [.i 6 0,.F 7]
 .ret) (.q [.f 28 8 1,.l 29 28,.m 30 2,.b 31 .gtr 29 30,.m 27 31]
 (.c 27 (.q [.i 6 1,.T 7]
 .ret))))))
 (.q [.f 32 8 2,.l 33 32,.m 6 33,.T 7]
 .ret)))⟩
theorem r_i_askedBefore {Te:TE} (c_i_MarkAt:C_i_MarkAt Te):C_i_askedBefore (RF Te x_i_askedBefore):=by
 intro n who seq hl
 refine X0 x_i_askedBefore.eq_1 ?_
 refine C0 (c_i_MarkAt n.S.T who hl) ?_
 cases g:markAt n.S.T.Marks who with
 | none =>
  try simp -implicitDefEqProofs (maxSteps:=1000000) only [go_sem,oldOf,Option.isSome_none]
  repeat refine ⟨sc,?_⟩
  try exact sf
  try rfl
 | some m =>
  cases g1:decide (m.Seq < seq)
  ·cases g2:decide (m.Seq > seq)
   ·have g3:(m.Seq==seq)=true:=by simp only [decide_eq_false_iff_not] at g1 g2; simp only [beq_iff_eq]; omega
    try simp -implicitDefEqProofs (maxSteps:=1000000) only [go_sem,oldOf,Option.isSome_some,g1,g2,g3]
    repeat refine ⟨sc,?_⟩
    try exact sf
    try rfl
   ·try simp -implicitDefEqProofs (maxSteps:=1000000) only [go_sem,oldOf,Option.isSome_some,g1,g2]
    repeat refine ⟨sc,?_⟩
    try exact sf
    try rfl
  ·have g2:decide (m.Seq > seq)=false:=by simp only [decide_eq_true_eq] at g1; exact decide_eq_false (by omega)
   have g3:(m.Seq==seq)=false:=by simp only [decide_eq_true_eq] at g1; simp only [beq_eq_false_iff_ne]; omega
   try simp -implicitDefEqProofs (maxSteps:=1000000) only [go_sem,oldOf,Option.isSome_some,g1,g2,g3]
   repeat refine ⟨sc,?_⟩
   try exact sf
   try rfl
def x_s_l15Old:FnX:=⟨49,[.tmp 6,.tmp 7],
  .q [.v 3 0,.i 6 0,.F 7]
 (.seq (.q [.L 10 10 3,.c 11 28 [10],.N 12 11,.m 13 12,.z 13 (.m 14 1),.z 13 (.op 15 (.call 64 [0,0,0] [(.t 14),(.i 1),(.i 9)])),.z 13 (.N 16 15),.r 17 13 16,.m 18 17,.z 18 (.m 19 2),.z 18 (.op 20 (.call 64 [0,0,0] [(.t 19),(.i 1),(.i 65535)])),.z 18 (.N 21 20),.r 22 18 21]
 (.c 22 (.q [.i 6 1,.T 7]
 .ret)))
 (.q [.f 24 3 0,.f 25 24 4,.L 26 3 25,.m 27 1,.c 28 89 [26,27],.m 23 28,.e 29 23 0,.e 30 23 1,.op 8 (.alloc [.i 0,.i 0,.i 0]),.s 100001 3 8 29,.m 9 30]
 (.seq (.block 0 (.q [.m 32 9,.m 33 32,.y 33 (.f 34 8 1),.y 33 (.l 35 34),.y 33 (.m 36 2),.y 33 (.b 37 .gtr 35 36),.a 38 33 37,.m 31 38]
 (.cond 31 (.q [.i 6 1,.T 7]
 .ret) (.q [.m 40 9,.m 41 40,.y 41 (.f 42 8 1),.y 41 (.l 43 42),.y 41 (.m 44 2),.y 41 (.b 45 .eql 43 44),.a 46 41 45,.m 39 46]
 (.c 39 (.q [.f 47 8 2,.l 48 47,.m 6 48,.T 7]
 .ret))))))
 (.q [.i 6 0,.F 7]
 .ret))))⟩
theorem r_s_l15Old {Te:TE} (c_s_l15Up:C_s_l15Up Te) (c_s_l1In:C_s_l1In Te) (c_s_MarkAt:C_s_MarkAt Te):C_s_l15Old (RF Te x_s_l15Old):=by
 intro n who seq h
 refine X0 x_s_l15Old.eq_1 ?_
 refine C0 (c_s_l15Up n h) ?_
 cases g1:n.up
 ·have e:n.old who seq=(1,true):=by rw [NodeV.old,g1]; rfl
  exact F1 e
 refine G0 ?_
 refine C0 (c_s_l1In _ _ _) ?_
 cases g2:win who 1 9
 ·have e:n.old who seq=(1,true):=by rw [NodeV.old,g1,g2]; rfl
  exact F1 e
 refine G0 ?_
 refine C0 (c_s_l1In _ _ _) ?_
 cases g3:win seq 1 65535
 ·have e:n.old who seq=(1,true):=by rw [NodeV.old,g1,g2,g3]; rfl
  exact F1 e
 have e:n.old who seq=oldOf (markAt n.S.T.Marks who) seq:=by rw [NodeV.old,g1,g2,g3]; rfl
 refine G0 ?_
 refine C0 (c_s_MarkAt n.S.T who h.2.2) ?_
 cases g:markAt n.S.T.Marks who with
 | none =>
  try simp -implicitDefEqProofs (maxSteps:=1000000) only [go_sem,e,g,oldOf,Option.isSome_none]
  repeat refine ⟨sc,?_⟩
  try exact sf
  try rfl
 | some m =>
  cases g4:decide (m.Seq > seq)
  ·cases g5:(m.Seq==seq)
   ·try simp -implicitDefEqProofs (maxSteps:=1000000) only [go_sem,e,g,oldOf,Option.isSome_some,g4,g5]
    repeat refine ⟨sc,?_⟩
    try exact sf
    try rfl
   ·try simp -implicitDefEqProofs (maxSteps:=1000000) only [go_sem,e,g,oldOf,Option.isSome_some,g4,g5]
    repeat refine ⟨sc,?_⟩
    try exact sf
    try rfl
  ·try simp -implicitDefEqProofs (maxSteps:=1000000) only [go_sem,e,g,oldOf,Option.isSome_some,g4]
   repeat refine ⟨sc,?_⟩
   try exact sf
   try rfl
def x_i_within:FnX:=⟨15,[.tmp 6],
  .q [.F 6]
 (.q [.m 7 0,.m 8 1,.b 9 .geq 7 8,.m 10 9,.y 10 (.m 11 0),.y 10 (.m 12 2),.y 10 (.b 13 .leq 11 12),.a 14 10 13,.m 6 14]
 .ret)⟩
theorem r_i_within {Te:TE}:C_i_within (RF Te x_i_within):=by
 intro n a b
 refine run0 ?_
 simp -implicitDefEqProofs (maxSteps:=1000000) only [x_i_within,go_sem]
 refine bif_cases (fun h=>?_) (fun h=>?_) <;> simp -implicitDefEqProofs (maxSteps:=1000000) only [h,go_sem,win]
def x_s_l1In:FnX:=⟨15,[.tmp 6],
  .q [.F 6]
 (.q [.m 7 0,.m 8 1,.b 9 .geq 7 8,.m 10 9,.y 10 (.m 11 0),.y 10 (.m 12 2),.y 10 (.b 13 .leq 11 12),.a 14 10 13,.m 6 14]
 .ret)⟩
theorem r_s_l1In {Te:TE}:C_s_l1In (RF Te x_s_l1In):=by
 intro n a b
 refine run0 ?_
 simp -implicitDefEqProofs (maxSteps:=1000000) only [x_s_l1In,go_sem]
 refine bif_cases (fun h=>?_) (fun h=>?_) <;> simp -implicitDefEqProofs (maxSteps:=1000000) only [h,go_sem,win]
def x_i_isWord:FnX:=⟨5,[.tmp 2],
  .q [.F 2]
 (.q [.m 3 0,.op 4 (.call 77 [0,0,0] [(.t 3),(.i 0),(.i 65535)]),.m 2 4]
 .ret)⟩
theorem r_i_isWord {Te:TE} (c_i_within:C_i_within Te):C_i_isWord (RF Te x_i_isWord):=by
 intro n
 refine run0 ?_
 simp -implicitDefEqProofs (maxSteps:=1000000) only [x_i_isWord,go_sem]
 exact D0 (c_i_within _ _ _)
def x_s_l1Word:FnX:=⟨5,[.tmp 2],
  .q [.F 2]
 (.q [.m 3 0,.op 4 (.call 64 [0,0,0] [(.t 3),(.i 0),(.i 65535)]),.m 2 4]
 .ret)⟩
theorem r_s_l1Word {Te:TE} (c_s_l1In:C_s_l1In Te):C_s_l1Word (RF Te x_s_l1Word):=by
 intro n
 refine run0 ?_
 simp -implicitDefEqProofs (maxSteps:=1000000) only [x_s_l1Word,go_sem]
 exact D0 (c_s_l1In _ _ _)
def x_i_StoreOk:FnX:=⟨40,[.tmp 2],
  .q [.v 1 0,.F 2]
 (.q [.f 3 1 0,.L 4 4 3,.c 5 184 [4],.m 6 5,.y 6 (.f 7 1 0),.y 6 (.f 8 7 0),.y 6 (.l 9 8),.y 6 (.n 10 9),.y 6 (.B 11 .eql 10 62),.a 12 6 11,.m 13 12,.y 13 (.f 14 1 0),.y 13 (.f 15 14 1),.y 13 (.l 16 15),.y 13 (.n 17 16),.y 13 (.B 18 .eql 17 0),.y 13 (.m 19 18),.z 19 (.f 20 1 0),.z 19 (.f 21 20 3),.z 19 (.l 22 21),.y 13 (.r 23 19 22),.a 24 13 23,.m 25 24,.y 25 (.f 26 1 4),.y 25 (.L 27 3 26),.y 25 (.c 28 185 [27]),.a 29 25 28,.m 30 29,.y 30 (.f 31 1 7),.y 30 (.l 32 31),.y 30 (.op 33 (.call 77 [0,0,0] [(.t 32),(.i 1),(.i 60000)])),.a 34 30 33,.m 35 34,.y 35 (.f 36 1 8),.y 35 (.l 37 36),.y 35 (.op 38 (.call 77 [0,0,0] [(.t 37),(.i 0),(.i 30)])),.a 39 35 38,.m 2 39]
 .ret)⟩
theorem r_i_StoreOk {Te:TE} (c_i_DevOk:C_i_DevOk Te) (c_i_TabOk:C_i_TabOk Te) (c_i_within:C_i_within Te):C_i_StoreOk (RF Te x_i_StoreOk):=by
 intro s h
 obtain ⟨hD,hT⟩:=h
 obtain ⟨⟨secs,cache,fuse,down⟩,T,gen,place⟩:=s
 cases down
 ·skip
  refine X0 x_i_StoreOk.eq_1 ?_
  refine C0 (c_i_DevOk ⟨secs,cache,fuse,false⟩ hD) ?_
  cases g1:DevV.ok ⟨secs,cache,fuse,false⟩
  ·have e:(StoreV.mk ⟨secs,cache,fuse,false⟩ T gen place).ok=false:=by simp only [StoreV.ok,g1,Bool.false_and]
   exact F1 e
  cases g2:((secs.length:Int)==62)
  ·have e:(StoreV.mk ⟨secs,cache,fuse,false⟩ T gen place).ok=false:=by simp only [StoreV.ok,g2,Bool.and_false,Bool.false_and]
   exact F2 g2 e
  cases g0:((cache.length:Int)==0)
  ·have e:(StoreV.mk ⟨secs,cache,fuse,false⟩ T gen place).ok=false:=by simp only [StoreV.ok,g0,Bool.or_self,Bool.and_false,Bool.false_and]
   exact F3 g2 g0 e
  refine G2 g2 g0 ?_
  refine C0 (c_i_TabOk T hT) ?_
  cases g4:T.ok
  ·have e:(StoreV.mk ⟨secs,cache,fuse,false⟩ T gen place).ok=false:=by simp only [StoreV.ok,g4,Bool.and_false,Bool.false_and]
   exact F1 e
  refine G0 ?_
  refine C0 (c_i_within _ _ _) ?_
  cases g5:win gen 1 60000
  ·have e:(StoreV.mk ⟨secs,cache,fuse,false⟩ T gen place).ok=false:=by simp only [StoreV.ok,g5,Bool.and_false,Bool.false_and]
   exact F1 e
  refine G0 ?_
  have e:(StoreV.mk ⟨secs,cache,fuse,false⟩ T gen place).ok=win place 0 30:=by simp only [StoreV.ok,g1,g2,g0,g4,g5,Bool.and_true,Bool.true_and,Bool.or_true,Bool.true_or]
  exact D1 (c_i_within _ _ _) e
 ·skip
  refine X0 x_i_StoreOk.eq_1 ?_
  refine C0 (c_i_DevOk ⟨secs,cache,fuse,true⟩ hD) ?_
  cases g1:DevV.ok ⟨secs,cache,fuse,true⟩
  ·have e:(StoreV.mk ⟨secs,cache,fuse,true⟩ T gen place).ok=false:=by simp only [StoreV.ok,g1,Bool.false_and]
   exact F1 e
  cases g2:((secs.length:Int)==62)
  ·have e:(StoreV.mk ⟨secs,cache,fuse,true⟩ T gen place).ok=false:=by simp only [StoreV.ok,g2,Bool.and_false,Bool.false_and]
   exact F2 g2 e
  cases g0:((cache.length:Int)==0)
  ·refine G2 g2 g0 ?_
   refine C0 (c_i_TabOk T hT) ?_
   cases g4:T.ok
   ·have e:(StoreV.mk ⟨secs,cache,fuse,true⟩ T gen place).ok=false:=by simp only [StoreV.ok,g4,Bool.and_false,Bool.false_and]
    exact F1 e
   refine G0 ?_
   refine C0 (c_i_within _ _ _) ?_
   cases g5:win gen 1 60000
   ·have e:(StoreV.mk ⟨secs,cache,fuse,true⟩ T gen place).ok=false:=by simp only [StoreV.ok,g5,Bool.and_false,Bool.false_and]
    exact F1 e
   refine G0 ?_
   have e:(StoreV.mk ⟨secs,cache,fuse,true⟩ T gen place).ok=win place 0 30:=by simp only [StoreV.ok,g1,g2,g0,g4,g5,Bool.and_true,Bool.true_and,Bool.or_true,Bool.true_or]
   exact D1 (c_i_within _ _ _) e
  ·refine G2 g2 g0 ?_
   refine C0 (c_i_TabOk T hT) ?_
   cases g4:T.ok
   ·have e:(StoreV.mk ⟨secs,cache,fuse,true⟩ T gen place).ok=false:=by simp only [StoreV.ok,g4,Bool.and_false,Bool.false_and]
    exact F1 e
   refine G0 ?_
   refine C0 (c_i_within _ _ _) ?_
   cases g5:win gen 1 60000
   ·have e:(StoreV.mk ⟨secs,cache,fuse,true⟩ T gen place).ok=false:=by simp only [StoreV.ok,g5,Bool.and_false,Bool.false_and]
    exact F1 e
   refine G0 ?_
   have e:(StoreV.mk ⟨secs,cache,fuse,true⟩ T gen place).ok=win place 0 30:=by simp only [StoreV.ok,g1,g2,g0,g4,g5,Bool.and_true,Bool.true_and,Bool.or_true,Bool.true_or]
   exact D1 (c_i_within _ _ _) e
def x_s_StoreOk:FnX:=⟨40,[.tmp 2],
  .q [.v 1 0,.F 2]
 (.q [.f 3 1 0,.L 4 4 3,.c 5 170 [4],.m 6 5,.y 6 (.f 7 1 0),.y 6 (.f 8 7 0),.y 6 (.l 9 8),.y 6 (.n 10 9),.y 6 (.B 11 .eql 10 62),.a 12 6 11,.m 13 12,.y 13 (.f 14 1 0),.y 13 (.f 15 14 3),.y 13 (.l 16 15),.y 13 (.m 17 16),.z 17 (.f 18 1 0),.z 17 (.f 19 18 1),.z 17 (.l 20 19),.z 17 (.n 21 20),.z 17 (.B 22 .eql 21 0),.y 13 (.r 23 17 22),.a 24 13 23,.m 25 24,.y 25 (.f 26 1 4),.y 25 (.L 27 3 26),.y 25 (.c 28 113 [27]),.a 29 25 28,.m 30 29,.y 30 (.f 31 1 7),.y 30 (.l 32 31),.y 30 (.op 33 (.call 64 [0,0,0] [(.t 32),(.i 1),(.i 60000)])),.a 34 30 33,.m 35 34,.y 35 (.f 36 1 8),.y 35 (.l 37 36),.y 35 (.op 38 (.call 64 [0,0,0] [(.t 37),(.i 0),(.i 30)])),.a 39 35 38,.m 2 39]
 .ret)⟩
theorem r_s_StoreOk {Te:TE} (c_s_DevOk:C_s_DevOk Te) (c_s_TabOk:C_s_TabOk Te) (c_s_l1In:C_s_l1In Te):C_s_StoreOk (RF Te x_s_StoreOk):=by
 intro s h
 obtain ⟨hD,hT⟩:=h
 obtain ⟨⟨secs,cache,fuse,down⟩,T,gen,place⟩:=s
 cases down
 ·skip
  refine X0 x_s_StoreOk.eq_1 ?_
  refine C0 (c_s_DevOk ⟨secs,cache,fuse,false⟩ hD) ?_
  cases g1:DevV.ok ⟨secs,cache,fuse,false⟩
  ·have e:(StoreV.mk ⟨secs,cache,fuse,false⟩ T gen place).ok=false:=by simp only [StoreV.ok,g1,Bool.false_and]
   exact F1 e
  cases g2:((secs.length:Int)==62)
  ·have e:(StoreV.mk ⟨secs,cache,fuse,false⟩ T gen place).ok=false:=by simp only [StoreV.ok,g2,Bool.and_false,Bool.false_and]
   exact F2 g2 e
  cases g0:((cache.length:Int)==0)
  ·have e:(StoreV.mk ⟨secs,cache,fuse,false⟩ T gen place).ok=false:=by simp only [StoreV.ok,g0,Bool.or_self,Bool.and_false,Bool.false_and]
   exact F3 g2 g0 e
  refine G2 g2 g0 ?_
  refine C0 (c_s_TabOk T hT) ?_
  cases g4:T.ok
  ·have e:(StoreV.mk ⟨secs,cache,fuse,false⟩ T gen place).ok=false:=by simp only [StoreV.ok,g4,Bool.and_false,Bool.false_and]
   exact F1 e
  refine G0 ?_
  refine C0 (c_s_l1In _ _ _) ?_
  cases g5:win gen 1 60000
  ·have e:(StoreV.mk ⟨secs,cache,fuse,false⟩ T gen place).ok=false:=by simp only [StoreV.ok,g5,Bool.and_false,Bool.false_and]
   exact F1 e
  refine G0 ?_
  have e:(StoreV.mk ⟨secs,cache,fuse,false⟩ T gen place).ok=win place 0 30:=by simp only [StoreV.ok,g1,g2,g0,g4,g5,Bool.and_true,Bool.true_and,Bool.or_true,Bool.true_or]
  exact D1 (c_s_l1In _ _ _) e
 ·skip
  refine X0 x_s_StoreOk.eq_1 ?_
  refine C0 (c_s_DevOk ⟨secs,cache,fuse,true⟩ hD) ?_
  cases g1:DevV.ok ⟨secs,cache,fuse,true⟩
  ·have e:(StoreV.mk ⟨secs,cache,fuse,true⟩ T gen place).ok=false:=by simp only [StoreV.ok,g1,Bool.false_and]
   exact F1 e
  cases g2:((secs.length:Int)==62)
  ·have e:(StoreV.mk ⟨secs,cache,fuse,true⟩ T gen place).ok=false:=by simp only [StoreV.ok,g2,Bool.and_false,Bool.false_and]
   exact F2 g2 e
  refine G1 g2 ?_
  refine C0 (c_s_TabOk T hT) ?_
  cases g4:T.ok
  ·have e:(StoreV.mk ⟨secs,cache,fuse,true⟩ T gen place).ok=false:=by simp only [StoreV.ok,g4,Bool.and_false,Bool.false_and]
   exact F1 e
  refine G0 ?_
  refine C0 (c_s_l1In _ _ _) ?_
  cases g5:win gen 1 60000
  ·have e:(StoreV.mk ⟨secs,cache,fuse,true⟩ T gen place).ok=false:=by simp only [StoreV.ok,g5,Bool.and_false,Bool.false_and]
   exact F1 e
  refine G0 ?_
  have e:(StoreV.mk ⟨secs,cache,fuse,true⟩ T gen place).ok=win place 0 30:=by simp only [StoreV.ok,g1,g2,g4,g5,Bool.and_true,Bool.true_and,Bool.or_true,Bool.true_or]
  exact D1 (c_s_l1In _ _ _) e
def x_i_NodeOk:FnX:=⟨11,[.tmp 2],
  .q [.v 1 0,.F 2]
 (.q [.f 3 1 0,.L 4 9 3,.c 5 129 [4],.m 6 5,.y 6 (.f 7 1 9),.y 6 (.l 8 7),.y 6 (.op 9 (.call 77 [0,0,0] [(.t 8),(.i 1),(.i 5)])),.a 10 6 9,.m 2 10]
 .ret)⟩
theorem r_i_NodeOk {Te:TE} (c_i_StoreOk:C_i_StoreOk Te) (c_i_within:C_i_within Te):C_i_NodeOk (RF Te x_i_NodeOk):=by
 intro n h
 refine run0 ?_
 simp -implicitDefEqProofs (maxSteps:=1000000) only [x_i_NodeOk,go_sem,NodeV.ok]
 repeat refine ⟨sc,?_⟩
 try exact sf
 refine C0 (c_i_StoreOk n.S h) ?_
 cases g1:n.S.ok
 ·exact F0
 ·refine G0 ?_
  exact D0 (c_i_within _ _ _)
def x_i_NodeStep:FnX:=⟨77,[.cell 4 (some 10),.tmp 5,.tmp 6,.tmp 7],
  .q [.v 2 0,.op 4 (.alloc [.nils 1,.nils 2,.i 0,.F,.nils 7,.i 0,.nils 3,.i 0,.i 0,.i 0]),.op 5 (.mv (.k (.one (.pv (.string ⟨#[]⟩))))),.i 6 0,.F 7]
 (.q [.L 17 10 2,.c 18 35 [17],.op 8 (.alloc [.nils 1,.nils 2,.i 0,.F,.nils 7,.i 0,.nils 3,.i 0,.i 0,.i 0]),.s 100001 10 8 18]
 (.q [.f 19 2 0,.f 20 19 4,.f 21 20 1,.l 22 21,.m 9 22]
 (.seq (.q [.L 23 10 2,.c 24 33 [23],.N 25 24,.m 26 25,.z 26 (.m 27 9),.z 26 (.c 28 56 [27]),.z 26 (.N 29 28),.r 30 26 29]
 (.c 30 (.q [.L 31 10 8,.m 32 1,.s 100002 10 4 31,.m 5 32,.i 6 0,.F 7]
 .ret)))
 (.q [.f 33 2 0,.f 34 33 4,.L 35 3 34,.m 36 1,.c 37 57 [35,36],.m 10 37]
 (.q [.m 38 1,.m 11 38]
 (.seq (.q [.m 39 10,.m 40 10,.n 41 40,.op 42 (.min (.i 2) (.t 41)),.op 43 (.slice 7 (.t 39) none (some (.t 42))),.n 44 43,.i 45 0]
 (.block 0 (.loop [1,4,8,9,10,11,43,44,45] (.q [.b 46 .lss 45 44]
 (.seq (.cond 46 .skip (.exit 0))
 (.seq (.block 1 (.q [.x 47 7 43 45,.L 48 7 47,.op 13 (.alloc [.e,.i 0,.nils 1,.i 0,.nils 1,.i 0,.F]),.s 100003 7 13 48]
 (.q [.m 49 9,.L 50 7 13,.c 51 58 [49,50],.op 14 (.alloc [.e,.i 0,.nils 1,.i 0,.nils 1,.i 0,.F]),.s 100004 7 14 51]
 (.q [.f 52 13 0,.l 53 52,.m 11 53]
 (.seq (.q [.L 54 7 14,.L 55 7 13,.c 56 59 [54,55]]
 (.c 56 (.exit 1)))
 (.q [.L 58 10 8,.L 59 7 14,.op 60 (.build [.i 0,.e,.i 0,.nils 1,.i 0,.nils 1,.i 0,.F,.e,.i 0,.i 0,.i 0,.i 0] [(0,1,(.i 1)),(1,7,(.t 59))]),.c 61 38 [58,60],.m 57 61,.e 62 57 0,.e 63 57 1,.op 15 (.alloc [.nils 1,.nils 2,.i 0,.F,.nils 7,.i 0,.nils 3,.i 0,.i 0,.i 0]),.s 100005 10 15 62,.m 16 63]
 (.q [.L 64 10 15,.s 100006 10 8 64]
 (.q [.m 65 16,.N 66 65]
 (.c 66 (.q [.L 67 10 8,.m 68 1,.s 100007 10 4 67,.m 5 68,.i 6 0,.F 7]
 .ret))))))))))
 (.reg [.B 69 .add 45 1,.m 45 69])))))))
 (.norm [4,8,10,11] (.seq (.q [.m 70 10,.n 71 70,.B 72 .gtr 71 2]
 (.c 72 (.q [.L 73 10 8,.m 74 11,.s 100008 10 4 73,.m 5 74,.i 6 0,.T 7]
 .ret)))
 (.q [.L 75 10 8,.m 76 11,.s 100009 10 4 75,.m 5 76,.i 6 1,.T 7]
 .ret)))))))))⟩
theorem r_i_NodeStep {Te:TE} (c_i_copyNode:C_i_copyNode Te) (c_i_isUp:C_i_isUp Te) (c_i_Walks:C_i_Walks Te) (c_i_rowsBehind:C_i_rowsBehind Te) (c_i_turnedRow:C_i_turnedRow Te) (c_i_sameRow:C_i_sameRow Te) (c_i_added:C_i_added Te):C_i_NodeStep (RF Te x_i_NodeStep):=by
 intro n f hn
 have hL:=hn.len (by decide)
 refine X0 x_i_NodeStep.eq_1 ?_
 refine C0 (c_i_copyNode n hL) ?_
 refine C0 (c_i_isUp n (hn.mono (by decide))) ?_
 cases g1:n.up
 ·have e:n.step f=(n,f,0,false):=by rw [NodeV.step,g1]; rfl
  exact F1 e
 refine G0 ?_
 refine C0 (c_i_Walks _) ?_
 cases g2:walks n.S.T.Phase
 ·have e:n.step f=(n,f,0,false):=by rw [NodeV.step,g1,g2]; rfl
  exact F1 e
 refine G0 ?_
 refine C0 (c_i_rowsBehind n.S.T f (by have:=hn.2.1.1; omega)) ?_
 have hB:(behind f n.S.T.Rows).length≤n.S.T.Rows.length:=List.length_filter_le _ _
 have hB2:∀ r∈behind f n.S.T.Rows,r.In (2 ^ 20):=fun r hr=>hn.2.1.2 r (List.mem_filter.1 hr).1
 have e:n.step f=(bif (stepN n.S.T.Phase n ((behind f n.S.T.Rows).take 2)).2 then ((stepN n.S.T.Phase n ((behind f n.S.T.Rows).take 2)).1,lastKey f ((behind f n.S.T.Rows).take 2),bif decide (((behind f n.S.T.Rows).length:Int) > 2) then 0 else 1,true) else ((stepN n.S.T.Phase n ((behind f n.S.T.Rows).take 2)).1,f,0,false)):=by rw [NodeV.step,g1,g2]; rfl
 rw [e]
 clear e
 generalize behind f n.S.T.Rows=B at hB hB2
 have hBr:B.length≤2 ^ 20:=by have:=hn.2.1.1; omega
 have ek:(bif decide ((B.length:Int) < 2) then (B.length:Int) else 2)=((B.take 2).length:Nat):=by
  rw [List.length_take]
  by_cases h:(B.length:Int) < 2
  ·rw [decide_eq_true h,cond_true]; omega
  ·rw [decide_eq_false h,cond_false]; omega
 rw [ek]
 have hk:(B.take 2).length≤B.length:=by rw [List.length_take]; omega
 have hk2:(B.take 2).length≤2:=by rw [List.length_take]; omega
 have hget:∀ (i:Nat) (h:i < (B.take 2).length) (h2:i < B.length),(B.take 2)[i]=B[i]:=fun i h h2=>List.getElem_take
 generalize B.take 2=C at hk hk2 hget
 generalize hp:n.S.T.Phase=p
 try simp -implicitDefEqProofs (maxSteps:=1000000) only [go_sem,Int.toNat_natCast,hp]
 repeat refine ⟨sc,?_⟩
 try exact sf
 refine loop_of (σ:=Nat×NodeV×List T) (fun x=>⟨[(1,.one (.pv (.string f))),(4,.bp 4 0),(8,.bp 8 0),(9,.one (.pv (.int .i64 p))),(10,.one (.rf 79 0 [] 7 0 B.length)),(11,.one (.pv (.string (lastKey f (C.take x.1))))),(43,.one (.rf 79 0 [] 7 0 C.length)),(44,.one (.pv (.int .i64 C.length))),(45,.one (.pv (.int .i64 x.1)))],[(4,[.nils 1,.nils 2,.pv (.int .i64 0),.pv (.bool false),.nils 7,.pv (.int .i64 0),.nils 3,.pv (.int .i64 0),.pv (.int .i64 0),.pv (.int .i64 0)]),(8,[.rf 80 0 [] 1 0 x.2.1.S.D.Secs.length,.rf 80 1 [] 2 0 x.2.1.S.D.Cache.length,.pv (.int .i64 x.2.1.S.D.Fuse),.pv (.bool x.2.1.S.D.Down),.rf 80 4 [] 7 0 x.2.1.S.T.Rows.length,.pv (.int .i64 x.2.1.S.T.Phase),.rf 80 6 [] 3 0 x.2.1.S.T.Marks.length,.pv (.int .i64 x.2.1.S.Gen),.pv (.int .i64 x.2.1.S.Place),.pv (.int .i64 x.2.1.Cs)])],[(0,n.enc false),(1,[sT f]),(79,[slT true 7 (RowV.enc false) B]),(80,x.2.1.enc true++x.2.2)]⟩) (fun x=>x.1≤C.length∧stepN p n (C.take x.1)=(x.2.1,true)∧x.2.1.In (2 ^ 20)) (fun x=>C.length - x.1) (0,n,[]) ?_ ⟨Nat.zero_le _,rfl,hn⟩ ?_
 ·simp -implicitDefEqProofs (maxSteps:=1000000) only [go_sem,lastKey,List.take_zero,List.getLast?_nil,List.append_nil,hp]
  try rfl
 ·rintro ⟨i,cur,E⟩ ⟨hi,hs,hc⟩
  simp only at hi hs hc
  cases q:decide ((i:Int) < (C.length:Int))
  ·have hC:C.take i=C:=List.take_of_length_le (by simp only [decide_eq_false_iff_not] at q; omega)
   rw [hC] at hs ⊢
   rw [hs]
   cases g:decide ((B.length:Int) > 2)
   ·exact F2 q g
   ·exact F2 q g
  ·have k1:i < C.length:=by simp only [decide_eq_true_eq] at q; omega
   have k2:i < B.length:=by omega
   have hr:=hB2 _ (List.getElem_mem k2)
   have et:C.take (i + 1)=C.take i++[B[i]]:=by rw [List.take_succ_eq_append_getElem k1,hget i k1 k2]
   have ew:IntKind.i64.wrap ((i:Int) + 1)=((i + 1:Nat):Int):=IntWalk.i64_in _ (by omega)
   have e1:stepN p n (C.take (i + 1))=stepN p cur [B[i]]:=by rw [et,stepN_app,hs]; rfl
   have e2:lastKey f (C.take (i + 1))=B[i].Key:=by rw [et,lastKey_snoc]
   try simp -implicitDefEqProofs (maxSteps:=1000000) only [go_sem,q,List.getD_eq_getElem?_getD,List.getElem?_eq_getElem k2]
   repeat refine ⟨sc,?_⟩
   try exact sf
   refine C0 (c_i_turnedRow p B[i] hr) ?_
   refine C0 (c_i_sameRow (turned p B[i]) B[i]) ?_
   cases g3:rowSame (turned p B[i]) B[i]
   ·refine G1 g3 ?_
    refine C0 (c_i_added cur (recRow (turned p B[i])) hc ⟨turned_in hr,Nat.zero_le _⟩) ?_
    cases g4:(cur.S.add (recRow (turned p B[i]))).2
    ·have e3:stepN p n C=(cur.added (recRow (turned p B[i])),false):=by
      rw [← List.take_append_drop (i + 1) C,stepN_app,e1,stepN,g3,g4]; rfl
     rw [e3]
     try simp -implicitDefEqProofs (maxSteps:=1000000) only [go_sem,g4,take_all,take_marks,NodeV.added]
     repeat refine ⟨sc,?_⟩
     try exact sf
     try rfl
    ·have e3:stepN p n (C.take (i + 1))=(cur.added (recRow (turned p B[i])),true):=by rw [e1,stepN,g3,g4]; rfl
     refine G1 g4 ?_
     refine ⟨(i + 1,cur.added (recRow (turned p B[i])),[bT true]),?_,⟨k1,e3,add_in2 _ hc⟩,by simp only; omega⟩
     rw [ew]
     simp only [e2]
     try rfl
   ·have e3:stepN p n (C.take (i + 1))=(cur,true):=by rw [e1,stepN,g3]; rfl
    refine G1 g3 ?_
    refine ⟨(i + 1,cur,E),?_,⟨k1,e3,hc⟩,by simp only; omega⟩
    rw [ew]
    simp only [e2]
    try rfl
def x_l_heldRowS:FnX:=⟨83,[.tmp 4],
  .q [.i 4 0]
 (.seq (.q [.i 5 0]
 (.block 0 (.loop [0,1,5] (.seq (.q [.m 6 5,.m 7 0,.n 8 7,.b 9 .lss 6 8]
 (.cond 9 .skip (.exit 0)))
 (.seq (.block 1 (.seq (.seq (.draw [.m 12 0,.m 13 5,.x 14 7 12 13,.f 15 14 0,.l 16 15,.m 17 1,.c 18 208 [17],.b 19 .neq 16 18] [[],[],[0,1],[2],[3],[],[5],[4,6]])
 (.c 19 (.q [.i 4 (-1)]
 .ret)))
 (.q [.m 20 1,.B 21 .add 20 1,.m 1 21]
 (.seq (.q [.m 22 0,.m 23 5,.x 24 7 22 23,.f 25 24 1,.f 26 25 0,.l 27 26,.m 28 1,.b 29 .neq 27 28]
 (.c 29 (.q [.i 4 (-1)]
 .ret)))
 (.q [.m 30 1,.B 31 .add 30 1,.m 1 31]
 (.q [.m 32 0,.m 33 5,.x 34 7 32 33,.f 35 34 1,.f 36 35 1,.l 37 36,.m 38 1,.c 39 209 [37,38],.m 1 39]
 (.seq (.q [.m 40 1,.B 41 .lss 40 0]
 (.c 41 (.q [.i 4 (-1)]
 .ret)))
 (.seq (.q [.m 42 0,.m 43 5,.x 44 7 42 43,.f 45 44 3,.f 46 45 0,.l 47 46,.m 48 1,.b 49 .neq 47 48]
 (.c 49 (.q [.i 4 (-1)]
 .ret)))
 (.q [.m 50 1,.B 51 .add 50 1,.m 1 51]
 (.q [.m 52 0,.m 53 5,.x 54 7 52 53,.f 55 54 3,.f 56 55 1,.l 57 56,.m 58 1,.c 59 209 [57,58],.m 1 59]
 (.seq (.q [.m 60 1,.B 61 .lss 60 0]
 (.c 61 (.q [.i 4 (-1)]
 .ret)))
 (.seq (.q [.m 62 0,.m 63 5,.x 64 7 62 63,.f 65 64 5,.l 66 65,.m 67 1,.b 68 .neq 66 67]
 (.c 68 (.q [.i 4 (-1)]
 .ret)))
 (.q [.m 69 1,.B 70 .add 69 1,.m 1 70]
 (.seq (.q [.m 71 0,.m 72 5,.x 73 7 71 72,.f 74 73 6,.l 75 74,.m 76 1,.B 77 .rem 76 3,.B 78 .eql 77 0,.op 79 (.beq true (.t 75) (.t 78))]
 (.c 79 (.q [.i 4 (-1)]
 .ret)))
 (.reg [.m 80 1,.B 81 .add 80 1,.m 1 81])))))))))))))))
 (.reg [.m 10 5,.B 11 .add 10 1,.m 5 11]))))))
 (.norm [1] (.q [.m 82 1,.m 4 82]
 .ret)))⟩
theorem r_l_heldRowS {Te:TE} (c_l_markText:C_l_markText Te) (c_l_heldByteS:C_l_heldByteS Te):C_l_heldRowS (RF Te x_l_heldRowS):=by
 intro l k hl hk
 refine run0 ?_
 have hl1:=hl.1
 simp -implicitDefEqProofs (maxSteps:=1000000) (disch:=omega) only [x_l_heldRowS,go_sem,IntWalk.i64_in]
 refine loop_of (σ:=Nat) (fun i=>⟨[(0,.one (.ro 7 ((markL RowV.markE RowV.farE l k).map (RowV.enc false)))),(1,.one (.pv (.int .i64 (farL RowV.farE (l.take i) k)))),(5,.one (.pv (.int .i64 i)))],[],[(0,[slT false 7 (RowV.enc false) (markL RowV.markE RowV.farE l k)]),(1,[iT k])]⟩) (fun i=>i≤l.length) (fun i=>l.length - i) 0 ?_ (Nat.zero_le _) ?_
 ·simp -implicitDefEqProofs (maxSteps:=1000000) only [go_sem]; simp [farL]
 ·intro i hi
  simp -implicitDefEqProofs (maxSteps:=1000000) only [go_sem,markL_length]
  refine ⟨fun h=>?_,fun h=>?_⟩
  ·have hi':i < l.length:=by simp only [decide_eq_true_eq] at h; omega
   have hb:k≤farL RowV.farE (l.take i) k∧farL RowV.farE (l.take i) k≤k + 8796103507968:=by
    have q:=farL_le (n:=2 ^ 21) (k:=k) (c:=4194309) (l:=l.take i) ⟨by rw [List.length_take]; omega,fun y hy=>hl.2 y (List.mem_of_mem_take hy)⟩ (fun y hy k=>RowV.farE_le hy k)
    omega
   have he:=hl.2 _ (List.getElem_mem hi')
   have hget:=markL_get RowV.markE RowV.farE l k hi'
   have hnext:=farL_take RowV.farE l k hi'
   have e0:l[i].Old.B.length≤2 ^ 21:=he.1
   have e1:l[i].New.B.length≤2 ^ 21:=he.2
   generalize farL RowV.farE (l.take i) k=j at hb hget hnext ⊢
   simp only [RowV.markE] at hget
   try simp -implicitDefEqProofs (maxSteps:=1000000) (disch:=omega) only [go_sem,hget,IntWalk.i64_in,mkB,bne_self_eq_false,decide_true,Bool.not_true]
   repeat (refine ⟨by decide,?_⟩)
   refine .of (c_l_markText _ (by omega)) ?_
   simp -implicitDefEqProofs (maxSteps:=1000000) (disch:=omega) only [go_sem,hget,IntWalk.i64_in,mkB,bne_self_eq_false,decide_true,Bool.not_true]
   repeat (refine ⟨by decide,?_⟩)
   refine .of (c_l_heldByteS (l[i].Old.B.length) _ (by omega) (by omega)) ?_
   simp -implicitDefEqProofs (maxSteps:=1000000) (disch:=omega) only [go_sem,hget,IntWalk.i64_in,mkB,bne_self_eq_false,decide_true,Bool.not_true]
   refine ⟨fun q=>by simp only [decide_eq_true_eq] at q; omega,fun _=>?_⟩
   try simp -implicitDefEqProofs (maxSteps:=1000000) (disch:=omega) only [go_sem,hget,IntWalk.i64_in,mkB,bne_self_eq_false,decide_true,Bool.not_true]
   repeat (refine ⟨by decide,?_⟩)
   refine .of (c_l_heldByteS (l[i].New.B.length) _ (by omega) (by omega)) ?_
   simp -implicitDefEqProofs (maxSteps:=1000000) (disch:=omega) only [go_sem,hget,IntWalk.i64_in,mkB,bne_self_eq_false,decide_true,Bool.not_true]
   refine ⟨fun q=>by simp only [decide_eq_true_eq] at q; omega,fun _=>?_⟩
   try simp -implicitDefEqProofs (maxSteps:=1000000) (disch:=omega) only [go_sem,hget,IntWalk.i64_in,mkB,bne_self_eq_false,decide_true,Bool.not_true]
   repeat (refine ⟨by decide,?_⟩)
   refine ⟨i + 1,?_,hi',by omega⟩
   rw [hnext]
   rfl
  ·have:i=l.length:=by simp only [decide_eq_false_iff_not] at h; omega
   subst this
   simp -implicitDefEqProofs (maxSteps:=1000000) only [go_sem,List.take_length]
def x_l_toMark:FnX:=⟨14,[.cell 2 (some 3)],
  .q [.v 1 0,.op 2 (.alloc [.i 0,.i 0,.i 0])]
 (.q [.op 3 (.alloc [.i 0,.i 0,.i 0])]
 (.q [.f 4 1 0,.l 5 4,.f 6 3 0,.s 100001 1 6 5]
 (.q [.f 7 1 1,.l 8 7,.f 9 3 1,.s 100002 1 9 8]
 (.q [.f 10 1 2,.l 11 10,.f 12 3 2,.s 100003 1 12 11]
 (.q [.L 13 3 3,.s 100004 3 2 13]
 .ret)))))⟩
theorem r_l_toMark {Te:TE}:C_l_toMark (RF Te x_l_toMark):=by
 intro x
 refine run0 ?_
 simp -implicitDefEqProofs (maxSteps:=1000000) only [x_l_toMark,go_sem]
def x_l_eqMark:FnX:=⟨20,[.tmp 4],
  .q [.v 2 0,.v 3 1,.F 4]
 (.seq (.q [.f 5 2 0,.l 6 5,.f 7 3 0,.l 8 7,.b 9 .neq 6 8]
 (.c 9 (.q [.F 4]
 .ret)))
 (.seq (.q [.f 10 2 1,.l 11 10,.f 12 3 1,.l 13 12,.b 14 .neq 11 13]
 (.c 14 (.q [.F 4]
 .ret)))
 (.seq (.q [.f 15 2 2,.l 16 15,.f 17 3 2,.l 18 17,.b 19 .neq 16 18]
 (.c 19 (.q [.F 4]
 .ret)))
 (.q [.T 4]
 .ret))))⟩
theorem r_l_eqMark {Te:TE}:C_l_eqMark (RF Te x_l_eqMark):=by
 intro x y
 refine run0 ?_
 have key:(x=y)↔x.Who=y.Who∧x.Seq=y.Seq∧x.Code=y.Code:=by cases x; cases y; simp
 simp only [key]
 clear key
 simp -implicitDefEqProofs (maxSteps:=1000000) only [x_l_eqMark,go_sem]
 refine ⟨fun q=>?_,fun q=>?_⟩
 ·have n0:¬ (x.Who=y.Who):=by simpa using q
  simp only [n0,false_and,and_false,true_and,decide_false]
 have e0:x.Who=y.Who:=by simpa using q
 clear q
 refine ⟨fun q=>?_,fun q=>?_⟩
 ·have n1:¬ (x.Seq=y.Seq):=by simpa using q
  simp only [e0,n1,false_and,and_false,true_and,decide_false]
 have e1:x.Seq=y.Seq:=by simpa using q
 clear q
 refine ⟨fun q=>?_,fun q=>?_⟩
 ·have n2:¬ (x.Code=y.Code):=by simpa using q
  simp only [e0,e1,n2,false_and,and_false,true_and,decide_false]
 have e2:x.Code=y.Code:=by simpa using q
 clear q
 simp only [e0,e1,e2,true_and,and_true,decide_true]
def x_l_szMarkS:FnX:=⟨12,[.tmp 4],
  .q [.i 4 0]
 (.q [.m 5 1,.m 6 0,.n 7 6,.b 8 .sub 5 7,.m 1 8]
 (.seq (.q [.m 9 1,.B 10 .lss 9 0]
 (.c 10 (.q [.i 4 (-1)]
 .ret)))
 (.q [.m 11 1,.m 4 11]
 .ret)))⟩
theorem r_l_szMarkS {Te:TE}:C_l_szMarkS (RF Te x_l_szMarkS):=by
 intro l k hl hk
 refine run0 ?_
 simp -implicitDefEqProofs (maxSteps:=1000000) (disch:=omega) only [x_l_szMarkS,go_sem,IntWalk.i64_in]
 refine ⟨fun h=>?_,fun h=>?_⟩
 ·simp only [decide_eq_true_eq] at h
  simp only [left,if_pos h]
 ·simp only [decide_eq_false_iff_not] at h
  simp only [left,if_neg h]
def x_z_DeleteFuncimplApply1:FnX:=⟨42,[.tmp 4],
  .q [.op 4 (.mv (.k (.one (.nils 7))))]
 (.q [.m 8 0,.m 9 1,.op 10 (.vcall 155 195 [0,15] [(.t 8)] (.t 9)),.m 5 10]
 (.seq (.q [.m 11 5,.B 12 .eql 11 (-1)]
 (.c 12 (.q [.m 13 0,.m 4 13]
 .ret)))
 (.seq (.q [.m 14 5,.B 15 .add 14 1,.m 6 15]
 (.block 0 (.loop [0,1,5,6] (.seq (.q [.m 16 6,.m 17 0,.n 18 17,.b 19 .lss 16 18]
 (.cond 19 .skip (.exit 0)))
 (.seq (.block 1 (.q [.m 22 0,.m 23 6,.x 24 7 22 23,.L 25 7 24,.op 7 (.alloc [.e,.i 0,.nils 1,.i 0,.nils 1,.i 0,.F]),.s 100001 7 7 25]
 (.q [.m 26 1,.L 27 7 7,.op 28 (.dcall 195 [0,15] [(.t 27)] (.t 26)),.N 29 28]
 (.c 29 (.q [.m 30 0,.m 31 5,.L 32 7 7,.x 33 7 30 31,.s 100002 7 33 32]
 (.reg [.m 34 5,.B 35 .add 34 1,.m 5 35]))))))
 (.reg [.m 20 6,.B 21 .add 20 1,.m 6 21]))))))
 (.norm [0,5] (.q [.m 36 0,.m 37 5,.op 38 (.slice 7 (.t 36) (some (.t 37)) none),⟨none,none,100003,.clear 7 [.pv (.string ⟨#[]⟩),.pv (.int .i64 0),.sl true 1 () [],.pv (.int .i64 0),.sl true 1 () [],.pv (.int .i64 0),.pv (.bool false)] (.t 38)⟩]
 (.q [.m 39 0,.m 40 5,.op 41 (.slice 7 (.t 39) none (some (.t 40))),.m 4 41]
 .ret))))))⟩
theorem r_z_DeleteFuncimplApply1 {Te:TE} (c_z_IndexFuncimplApply1:C_z_IndexFuncimplApply1 Te) (c_i_Apply1:C_i_Apply1 Te):C_z_DeleteFuncimplApply1 (RFV Te 195 x_z_DeleteFuncimplApply1):=by
 intro l r hl
 refine run0V ?_
 simp -implicitDefEqProofs (maxSteps:=1000000) only [x_z_DeleteFuncimplApply1,go_sem]
 repeat refine ⟨sc,?_⟩
 try exact sf
 refine C0 (c_z_IndexFuncimplApply1 l r (by omega)) ?_
 rcases rowAt_cases l r.Key with ⟨e1,e2⟩ | ⟨hk,e1,e2⟩
 ·have e:=delRows_none e1
  exact F2 e1 e
 have c1:((rowIx l r.Key:Int) == -1)=false:=by simp only [beq_eq_false_iff_ne]; omega
 have d1:=delRows_take hk
 refine G2 e1 c1 ?_
 refine loop_of (σ:=Nat×List RowV×List (List T)) (fun x=>⟨[(0,.one (.rf 0 0 [] 7 0 l.length)),(1,.fn 195 1 0),(5,.one (.pv (.int .i64 x.2.1.length))),(6,.one (.pv (.int .i64 x.1)))],[(1,[.pv (.int .i64 r.Kind),.pv (.string r.R.Key),.pv (.int .i64 r.R.Old.Tag),.dead,.pv (.int .i64 r.R.New.Tag),.dead,.pv (.int .i64 r.R.Has),.pv (.bool r.R.Aside),.pv (.string r.Key),.pv (.int .i64 r.N),.pv (.int .i64 r.Who),.pv (.int .i64 r.Seq),.pv (.int .i64 r.Code)])],[(0,[Tr.sl true 7 () (delSt l x.2.1 x.2.2 x.1)]),(1,r.dim)]⟩) (fun x=>x.1≤l.length∧x.2.1=delRows (l.take x.1) r.Key∧x.2.1.length + x.2.2.length=x.1∧x.2.2≠[]∧∀ y∈x.2.2,y.length=7) (fun x=>l.length - x.1) (rowIx l r.Key + 1,l.take (rowIx l r.Key),[l[rowIx l r.Key].enc true]) ?_ ⟨hk,d1.symm,by simp only [List.length_take,List.length_cons,List.length_nil]; omega,by simp,fun y hy=>by simp only [List.mem_cons,List.not_mem_nil,or_false] at hy; rw [hy]; rfl⟩ ?_
 ·have e3:delSt l (l.take (rowIx l r.Key)) [l[rowIx l r.Key].enc true] (rowIx l r.Key + 1)=l.map (RowV.enc true):=by
   simp only [delSt]
   rw [List.append_assoc,show ([l[rowIx l r.Key].enc true]++(l.drop (rowIx l r.Key + 1)).map (RowV.enc true))=(l.drop (rowIx l r.Key)).map (RowV.enc true) by rw [List.drop_eq_getElem_cons hk,List.map_cons]; rfl,← List.map_append,List.take_append_drop]
  have e4:(l.take (rowIx l r.Key)).length=rowIx l r.Key:=by rw [List.length_take]; omega
  simp -implicitDefEqProofs (maxSteps:=1000000) only [go_sem,e3,e4]
  rw [IntWalk.i64_in _ (by omega)]
  try rfl
 ·rintro ⟨j,k,m⟩ ⟨hj,hk',hm,hne,hm7⟩
  simp only at hj hk' hm hne hm7
  have el:=delSt_len hj hm
  cases q:decide ((j:Int) < (l.length:Int))
  ·have k0:j=l.length:=by simp only [decide_eq_false_iff_not] at q; omega
   subst k0
   rw [List.take_length] at hk'
   refine G2 q el ?_
   have hkl:k.length≤l.length:=by omega
   have eA:List.take k.length (delSt l k m l.length)=k.map (RowV.enc true):=by
    rw [delSt,List.append_assoc]
    exact List.take_left' (by simp)
   refine ⟨decide_eq_true (by simp only [List.length_take,el,List.length_drop]; omega),?_⟩
   rw [eA,Nat.sub_zero,List.append_assoc,List.take_left' (by simp),← hk']
   try rfl
  ·have k1:j < l.length:=by simp only [decide_eq_true_eq] at q; omega
   have eg:=delSt_get k1 hm
   have ed:(delSt l k m j).getD j []=l[j].enc true:=by rw [List.getD_eq_getElem?_getD,eg]; rfl
   refine G4 q eg ed el ?_
   refine C3 (c_i_Apply1 l[j] r) eg ed el ?_
   have st:=delRows_step (key:=r.Key) k1
   rw [← hk'] at st
   cases g:decide (l[j].Key=r.Key)
   ·obtain ⟨x,m',rfl⟩:∃ x m',m=x::m':=by
     cases m with
     | nil=>exact absurd rfl hne
     | cons x m'=>exact ⟨x,m',rfl⟩
    have e5:∀ X:List T,((delSt l k (x::m') j).set j X)[j]?=some X:=fun X=>List.getElem?_set_self (by rw [el]; exact k1)
    have e6:(j==k.length)=false:=by simp only [beq_eq_false_iff_ne]; simp only [List.length_cons] at hm; omega
    have hx7:=hm7 x (List.mem_cons_self ..)
    have e7:∀ X:List T,((delSt l k (x::m') j).set j X).getD k.length []=x:=fun X=>by
     rw [List.getD_eq_getElem?_getD,List.getElem?_set_ne (by simp only [List.length_cons] at hm; omega),← List.getD_eq_getElem?_getD,delSt_row]
    have e8:x.drop 7=[]:=List.drop_of_length_le (by omega)
    have e9:decide (k.length < l.length)=true:=decide_eq_true (by simp only [List.length_cons] at hm; omega)
    have e10:=delSt_move (k:=k) (m:=m') (x:=x) k1 hm
    simp only [goneR] at e10
    try simp -implicitDefEqProofs (maxSteps:=1000000) only [go_sem,g,eg,ed,el,e5,e6,List.set_set,List.length_set,take_rows]
    repeat refine ⟨sc,?_⟩
    try exact sf
    try simp -implicitDefEqProofs (maxSteps:=1000000) only [go_sem,storeAp,setCells,e5,e6,e7,e8,e9,e10,el,List.set_set,List.length_set,take_rows]
    repeat refine ⟨sc,?_⟩
    try exact sf
    refine ⟨(j + 1,k++[l[j]],m'++[goneR l[j]]),?_,⟨k1,by rw [st,g]; rfl,by simp only [List.length_append,List.length_cons,List.length_nil] at hm ⊢; omega,by simp,fun y hy=>by
     rcases List.mem_append.1 hy with hy | hy
     ·exact hm7 y (List.mem_cons_of_mem _ hy)
     ·simp only [List.mem_cons,List.not_mem_nil,or_false] at hy; rw [hy]; rfl⟩,by simp only; omega⟩
    rw [IntWalk.i64_in _ (by omega),IntWalk.i64_in _ (by simp only [List.length_cons] at hm; omega)]
    simp only [List.length_append]
    rfl
   ·refine G1 g ?_
    refine ⟨(j + 1,k,m++[l[j].enc true]),?_,⟨k1,by rw [st,g]; rfl,by simp only [List.length_append,List.length_cons,List.length_nil]; omega,by simp,fun y hy=>by
     rcases List.mem_append.1 hy with hy | hy
     ·exact hm7 y hy
     ·simp only [List.mem_cons,List.not_mem_nil,or_false] at hy; rw [hy]; rfl⟩,by simp only; omega⟩
    rw [IntWalk.i64_in _ (by omega),delSt_skip k1]
    rfl
def x_i_SignByte:FnX:=⟨26,[.tmp 4,.tmp 5],
  .q [.i 4 0,.F 5]
 (.seq (.q [.i 6 0]
 (.block 0 (.loop [0,1,6] (.seq (.q [.m 9 6,.B 10 .leq 9 255]
 (.cond 10 .skip (.exit 0)))
 (.seq (.block 1 (.q [.m 14 0,.m 15 6,.c 16 134 [14,15],.m 13 16,.e 17 13 0,.e 18 13 1,.m 7 17,.m 8 18]
 (.q [.m 19 8,.m 20 19,.y 20 (.m 21 7),.y 20 (.m 22 1),.y 20 (.b 23 .eql 21 22),.a 24 20 23]
 (.c 24 (.q [.m 25 6,.m 4 25,.T 5]
 .ret)))))
 (.reg [.m 11 6,.B 12 .add 11 1,.m 6 12]))))))
 (.norm [] (.q [.i 4 0,.F 5]
 .ret)))⟩
theorem r_i_SignByte {Te:TE} (c_i_ByteSign:C_i_ByteSign Te):C_i_SignByte (RF Te x_i_SignByte):=by
 intro cs n
 refine X0 x_i_SignByte.eq_1 ?_
 refine loop_of (σ:=Nat) (fun i=>⟨[(0,.one (.pv (.int .i64 cs))),(1,.one (.pv (.int .i64 n))),(6,.one (.pv (.int .i64 i)))],[],[(0,[iT cs]),(1,[iT n])]⟩) (fun i=>i≤256∧∀ j,j < i→sbHit cs n j=false) (fun i=>256 - i) 0 ?_ ⟨Nat.zero_le _,fun j h=>absurd h (Nat.not_lt_zero _)⟩ ?_
 ·simp -implicitDefEqProofs (maxSteps:=1000000) only [go_sem]
  try rfl
 ·rintro i ⟨hi,hp⟩
  cases q:decide ((i:Int)≤255)
  ·have e:=signByte_none (cs:=cs) (n:=n) fun j hj=>hp j (by simp only [decide_eq_false_iff_not] at q; omega)
   exact F2 q e
  ·have k1:i < 256:=by simp only [decide_eq_true_eq] at q; omega
   refine G1 q ?_
   refine C0 (c_i_ByteSign _ _) ?_
   cases g1:(byteSign cs i).2
   ·have g:sbHit cs n i=false:=by rw [sbHit,g1]; rfl
    refine G1 g1 ?_
    refine ⟨i + 1,?_,⟨k1,fun j hj=>by
     by_cases e:j=i
     ·subst e; exact g
     ·exact hp j (by omega)⟩,by omega⟩
    rw [IntWalk.i64_in _ (by omega)]
    rfl
   ·cases g2:((byteSign cs i).1==n)
    ·have g:sbHit cs n i=false:=by rw [sbHit,g1,g2]; rfl
     refine G2 g1 g2 ?_
     refine ⟨i + 1,?_,⟨k1,fun j hj=>by
      by_cases e:j=i
      ·subst e; exact g
      ·exact hp j (by omega)⟩,by omega⟩
     rw [IntWalk.i64_in _ (by omega)]
     rfl
    ·have e:=signByte_hit k1 hp (by rw [sbHit,g1,g2]; rfl)
     exact F3 g1 g2 e
def x_s_SignByte:FnX:=⟨26,[.tmp 4,.tmp 5],
  .q [.i 4 0,.F 5]
 (.seq (.q [.i 6 0]
 (.block 0 (.loop [0,1,6] (.seq (.q [.m 9 6,.B 10 .lss 9 256]
 (.cond 10 .skip (.exit 0)))
 (.seq (.block 1 (.q [.m 14 0,.m 15 6,.c 16 111 [14,15],.m 13 16,.e 17 13 0,.e 18 13 1,.m 7 17,.m 8 18]
 (.q [.m 19 8,.m 20 19,.y 20 (.m 21 7),.y 20 (.m 22 1),.y 20 (.b 23 .eql 21 22),.a 24 20 23]
 (.c 24 (.q [.m 25 6,.m 4 25,.T 5]
 .ret)))))
 (.reg [.m 11 6,.B 12 .add 11 1,.m 6 12]))))))
 (.norm [] (.q [.i 4 0,.F 5]
 .ret)))⟩
theorem r_s_SignByte {Te:TE} (c_s_ByteSign:C_s_ByteSign Te):C_s_SignByte (RF Te x_s_SignByte):=by
 intro cs n
 refine X0 x_s_SignByte.eq_1 ?_
 refine loop_of (σ:=Nat) (fun i=>⟨[(0,.one (.pv (.int .i64 cs))),(1,.one (.pv (.int .i64 n))),(6,.one (.pv (.int .i64 i)))],[],[(0,[iT cs]),(1,[iT n])]⟩) (fun i=>i≤256∧∀ j,j < i→sbHit cs n j=false) (fun i=>256 - i) 0 ?_ ⟨Nat.zero_le _,fun j h=>absurd h (Nat.not_lt_zero _)⟩ ?_
 ·simp -implicitDefEqProofs (maxSteps:=1000000) only [go_sem]
  try rfl
 ·rintro i ⟨hi,hp⟩
  cases q:decide ((i:Int) < 256)
  ·have e:=signByte_none (cs:=cs) (n:=n) fun j hj=>hp j (by simp only [decide_eq_false_iff_not] at q; omega)
   exact F2 q e
  ·have k1:i < 256:=by simp only [decide_eq_true_eq] at q; omega
   refine G1 q ?_
   refine C0 (c_s_ByteSign _ _) ?_
   cases g1:(byteSign cs i).2
   ·have g:sbHit cs n i=false:=by rw [sbHit,g1]; rfl
    refine G1 g1 ?_
    refine ⟨i + 1,?_,⟨k1,fun j hj=>by
     by_cases e:j=i
     ·subst e; exact g
     ·exact hp j (by omega)⟩,by omega⟩
    rw [IntWalk.i64_in _ (by omega)]
    rfl
   ·cases g2:((byteSign cs i).1==n)
    ·have g:sbHit cs n i=false:=by rw [sbHit,g1,g2]; rfl
     refine G2 g1 g2 ?_
     refine ⟨i + 1,?_,⟨k1,fun j hj=>by
      by_cases e:j=i
      ·subst e; exact g
      ·exact hp j (by omega)⟩,by omega⟩
     rw [IntWalk.i64_in _ (by omega)]
     rfl
    ·have e:=signByte_hit k1 hp (by rw [sbHit,g1,g2]; rfl)
     exact F3 g1 g2 e
def x_i_SignPair:FnX:=⟨17,[.tmp 2,.tmp 3,.tmp 4],
  .q [.i 2 0,.i 3 0,.F 4]
 (.seq (.block 0 (.q [.m 6 0,.op 7 (.call 77 [0,0,0] [(.t 6),(.i 12353),(.i 12435)]),.m 5 7]
 (.cond 5 (.q [.m 8 0,.B 9 .sub 8 12353,.B 10 .add 9 161,.i 2 164,.m 3 10,.T 4]
 .ret) (.q [.m 12 0,.op 13 (.call 77 [0,0,0] [(.t 12),(.i 12449),(.i 12534)]),.m 11 13]
 (.c 11 (.q [.m 14 0,.B 15 .sub 14 12449,.B 16 .add 15 161,.i 2 165,.m 3 16,.T 4]
 .ret))))))
 (.q [.i 2 0,.i 3 0,.F 4]
 .ret))⟩
theorem r_i_SignPair {Te:TE} (c_i_within:C_i_within Te):C_i_SignPair (RF Te x_i_SignPair):=by
 intro n
 refine X0 x_i_SignPair.eq_1 ?_
 refine C0 (c_i_within _ _ _) ?_
 cases g:win n 12353 12435
 ·refine G0 ?_
  refine C0 (c_i_within _ _ _) ?_
  cases g2:win n 12449 12534
  ·have e:signPair n=(0,0,false):=by rw [signPair,g,g2]; rfl
   exact F1 e
  ·have e:signPair n=(165,n - 12449 + 161,true):=by rw [signPair,g,g2]; rfl
   simp only [win,Bool.and_eq_true,decide_eq_true_eq] at g2
   have w1:IntKind.i64.wrap (n - 12449)=n - 12449:=IntWalk.i64_in _ (by omega)
   have w2:IntKind.i64.wrap (n - 12449 + 161)=n - 12449 + 161:=IntWalk.i64_in _ (by omega)
   exact F3 e w1 w2
 ·have e:signPair n=(164,n - 12353 + 161,true):=by rw [signPair,g]; rfl
  simp only [win,Bool.and_eq_true,decide_eq_true_eq] at g
  have w1:IntKind.i64.wrap (n - 12353)=n - 12353:=IntWalk.i64_in _ (by omega)
  have w2:IntKind.i64.wrap (n - 12353 + 161)=n - 12353 + 161:=IntWalk.i64_in _ (by omega)
  exact F3 e w1 w2
def x_s_SignPair:FnX:=⟨17,[.tmp 2,.tmp 3,.tmp 4],
  .q [.i 2 0,.i 3 0,.F 4]
 (.seq (.block 0 (.q [.m 6 0,.op 7 (.call 64 [0,0,0] [(.t 6),(.i 12353),(.i 12435)]),.m 5 7]
 (.cond 5 (.q [.m 8 0,.B 9 .sub 8 12353,.B 10 .add 9 161,.i 2 164,.m 3 10,.T 4]
 .ret) (.q [.m 12 0,.op 13 (.call 64 [0,0,0] [(.t 12),(.i 12449),(.i 12534)]),.m 11 13]
 (.c 11 (.q [.m 14 0,.B 15 .sub 14 12449,.B 16 .add 15 161,.i 2 165,.m 3 16,.T 4]
 .ret))))))
 (.q [.i 2 0,.i 3 0,.F 4]
 .ret))⟩
theorem r_s_SignPair {Te:TE} (c_s_l1In:C_s_l1In Te):C_s_SignPair (RF Te x_s_SignPair):=by
 intro n
 refine X0 x_s_SignPair.eq_1 ?_
 refine C0 (c_s_l1In _ _ _) ?_
 cases g:win n 12353 12435
 ·refine G0 ?_
  refine C0 (c_s_l1In _ _ _) ?_
  cases g2:win n 12449 12534
  ·have e:signPair n=(0,0,false):=by rw [signPair,g,g2]; rfl
   exact F1 e
  ·have e:signPair n=(165,n - 12449 + 161,true):=by rw [signPair,g,g2]; rfl
   simp only [win,Bool.and_eq_true,decide_eq_true_eq] at g2
   have w1:IntKind.i64.wrap (n - 12449)=n - 12449:=IntWalk.i64_in _ (by omega)
   have w2:IntKind.i64.wrap (n - 12449 + 161)=n - 12449 + 161:=IntWalk.i64_in _ (by omega)
   exact F3 e w1 w2
 ·have e:signPair n=(164,n - 12353 + 161,true):=by rw [signPair,g]; rfl
  simp only [win,Bool.and_eq_true,decide_eq_true_eq] at g
  have w1:IntKind.i64.wrap (n - 12353)=n - 12353:=IntWalk.i64_in _ (by omega)
  have w2:IntKind.i64.wrap (n - 12353 + 161)=n - 12353 + 161:=IntWalk.i64_in _ (by omega)
  exact F3 e w1 w2
def x_i_GetSign:FnX:=⟨35,[.tmp 4,.tmp 5,.tmp 6],
  .q [.i 4 0,.i 5 0,.F 6]
 (.seq (.q [.m 9 1,.B 10 .lss 9 0,.m 11 10,.z 11 (.m 12 1),.z 11 (.m 13 0),.z 11 (.n 14 13),.z 11 (.b 15 .geq 12 14),.r 16 11 15]
 (.c 16 (.q [.i 4 0,.i 5 0,.F 6]
 .ret)))
 (.q [.m 18 0,.m 19 1,.op 20 (.slice 1 (.t 18) (some (.t 19)) none),.c 21 186 [20],.m 17 21,.e 22 17 0,.e 23 17 1,.m 7 22,.m 8 23]
 (.seq (.q [.m 24 7,.op 25 (.bin .eql (.t 24) (.k (.one (.pv (.int .i32 65533))))),.m 26 25,.y 26 (.m 27 8),.y 26 (.B 28 .lss 27 2),.a 29 26 28]
 (.c 29 (.q [.i 4 0,.i 5 0,.F 6]
 .ret)))
 (.q [.m 30 7,.op 31 (.conv (.int .i64) (.t 30)),.m 32 1,.m 33 8,.b 34 .add 32 33,.m 4 31,.m 5 34,.T 6]
 .ret))))⟩
theorem r_i_GetSign {Te:TE} (c_u_DecodeRune:C_u_DecodeRune Te):C_i_GetSign (RF Te x_i_GetSign):=by
 intro b i hb
 refine run0 ?_
 cases q1:decide (i < 0)
 ·cases q2:decide (i≥b.length)
  ·have hi:0≤i∧i < b.length:=by simp only [decide_eq_false_iff_not] at q1 q2; omega
   have hne:b.drop i.toNat≠[]:=by
    intro e
    have:=congrArg List.length e
    rw [List.length_drop] at this
    simp only [List.length_nil] at this
    omega
   simp -implicitDefEqProofs (maxSteps:=1000000) only [x_i_GetSign,go_sem,q1,q2,drop_map_take]
   repeat refine ⟨sc,?_⟩
   try exact sf
   refine C0 (c_u_DecodeRune (b.drop i.toNat) hne) ?_
   have hw:=Lib.decodeL_width (b.drop i.toNat)
   have hc:=decodeL_bound (b.drop i.toNat)
   have hl:=Lib.decodeL_le (b.drop i.toNat) hne
   have hld:(b.drop i.toNat).length≤b.length:=by rw [List.length_drop]; omega
   by_cases hd:(Lib.decodeL (b.drop i.toNat)).1=65533∧(Lib.decodeL (b.drop i.toNat)).2=1
   ·have e1:((((Lib.decodeL (b.drop i.toNat)).1:Nat):Int)==65533)=true:=by rw [hd.1]; rfl
    have e2:decide ((((Lib.decodeL (b.drop i.toNat)).2:Nat):Int) < 2)=true:=by rw [hd.2]; rfl
    have e:=getSign_bad hi (show signAt _=none from if_pos hd)
    exact F3 e1 e2 e
   ·have e:=getSign_good hi (show signAt _=some _ from if_neg hd)
    have w1:IntKind.i64.wrap (((Lib.decodeL (b.drop i.toNat)).1:Nat):Int)=((Lib.decodeL (b.drop i.toNat)).1:Nat):=IntWalk.i64_in _ (by omega)
    have w2:IntKind.i64.wrap (i + (((Lib.decodeL (b.drop i.toNat)).2:Nat):Int))=i + ((Lib.decodeL (b.drop i.toNat)).2:Nat):=IntWalk.i64_in _ (by omega)
    cases e1:((((Lib.decodeL (b.drop i.toNat)).1:Nat):Int)==65533)
    ·exact F4 e1 e w1 w2
    ·have e2:decide ((((Lib.decodeL (b.drop i.toNat)).2:Nat):Int) < 2)=false:=by
      refine decide_eq_false fun q=>hd ⟨?_,by omega⟩
      have:=eq_of_beq e1
      omega
     try simp -implicitDefEqProofs (maxSteps:=1000000) only [go_sem,e1,e2,e,w1,w2]
     repeat refine ⟨sc,?_⟩
     try exact sf
  ·have e:=getSign_no (b:=b) (i:=i) (by simp only [decide_eq_true_eq] at q2; omega)
   simp -implicitDefEqProofs (maxSteps:=1000000) only [x_i_GetSign,go_sem,q1,q2,e]
   repeat refine ⟨sc,?_⟩
   try exact sf
 ·have e:=getSign_no (b:=b) (i:=i) (by simp only [decide_eq_true_eq] at q1; omega)
  simp -implicitDefEqProofs (maxSteps:=1000000) only [x_i_GetSign,go_sem,q1,e]
  repeat refine ⟨sc,?_⟩
  try exact sf
def x_i_Signs:FnX:=⟨22,[.tmp 2,.tmp 3],
  .q [.op 2 (.mv (.k (.one (.nils 1)))),.F 3]
 (.seq (.q [.m 7 0,.c 8 233 [7],.N 9 8]
 (.c 9 (.q [.op 2 (.mv (.k (.one (.nils 1)))),.F 3]
 .ret)))
 (.q [.op 10 (.bslice 1 []),.m 4 10]
 (.seq (.rng 0 0 11 12 13 14 [4,12] (.block 1 (.q [.e 15 13 2,.m 6 15]
 (.reg [.m 16 4,.m 17 6,.op 18 (.conv (.int .i64) (.t 17)),.op 19 (.bslice 1 [(.t 18)]),.op 20 (.app 1 8 (.t 16) (.t 19)),.m 4 20]))))
 (.norm [4] (.q [.m 21 4,.m 2 21,.T 3]
 .ret)))))⟩
theorem r_i_Signs {Te:TE} (c_u_ValidString:C_u_ValidString Te):C_i_Signs (RF Te x_i_Signs):=by
 intro s hs
 refine X0 x_i_Signs.eq_1 ?_
 refine .of (c_u_ValidString s (Nat.le_trans hs (by decide))) ?_
 cases hv:Lib.validD s.data.toList
 ·try simp -implicitDefEqProofs (maxSteps:=1000000) only [go_sem,signsOf,hv,if_false]
  repeat refine ⟨sc,?_⟩
  try exact sf
  try rfl
 ·have e:signsOf s=(signs s.data.toList,true):=by simp only [signsOf,hv,if_true]
  simp -implicitDefEqProofs (maxSteps:=1000000) only [go_sem,true_implies,false_implies,e]
  refine rng_of (σ:=List Int) s (fun r acc=>⟨[(4,.one (.rf 23 0 [] 1 0 acc.length)),(12,itV r)],[],[(0,[sT s]),(23,[.sl true 1 () (acc.map iR)])]⟩) (fun p acc=>p≤s.size∧acc.length≤p∧acc++signs (s.data.toList.drop p)=signs s.data.toList) [] ?_ ?_ ?_ ⟨Nat.zero_le _,Nat.le_refl _,by simp⟩ ?_ ?_ ?_
  ·rfl
  ·rfl
  ·intro r
   simp -implicitDefEqProofs (maxSteps:=1000000) only [rngIn_mk,go_sem]
   try rfl
  ·intro r y
   exact ⟨rfl,rfl⟩
  ·rintro r p acc ⟨hp,hl,ha⟩ hlt
   have hne:s.data.toList.drop p≠[]:=by
    intro e
    have:=congrArg List.length e
    rw [List.length_drop,sizeL] at this
    simp only [List.length_nil] at this
    omega
   have ed:=Lib.decodeL_drop s p
   have hw:=Lib.decodeL_width (s.data.toList.drop p)
   have hc:=decodeL_bound (s.data.toList.drop p)
   have hle:=Lib.decodeL_le _ hne
   rw [List.length_drop,sizeL] at hle
   rw [signs_step hne,List.drop_drop] at ha
   rw [← ed]
   generalize Lib.decodeL (s.data.toList.drop p)=d at hw hc hle ha
   have w:IntKind.i64.wrap ((d.1:Nat):Int)=(d.1:Nat):=IntWalk.i64_in _ (by omega)
   have ea:List.take acc.length (List.map iR acc)=List.map iR acc:=take_map iR acc
   try simp -implicitDefEqProofs (maxSteps:=1000000) only [go_sem,rngOn_mk,w,ea]
   repeat refine ⟨sc,?_⟩
   try exact sf
   refine ⟨acc++[((d.1:Nat):Int)],?_,by omega,by simp; omega,by rw [← ha]; simp [Nat.add_comm]⟩
   rw [show List.map iR acc++[[Tr.pv (Value.int .i64 ((d.1:Nat):Int))]]=List.map iR (acc++[((d.1:Nat):Int)]) by simp]
   simp
  ·rintro r p acc ⟨hp,hl,ha⟩ hge
   have hd:s.data.toList.drop p=[]:=List.drop_eq_nil_of_le (by rw [sizeL]; exact hge)
   rw [hd,signs_nil,List.append_nil] at ha
   subst ha
   try simp -implicitDefEqProofs (maxSteps:=1000000) only [go_sem,rngOff_mk]
   repeat refine ⟨sc,?_⟩
   try exact sf
def x_l_markText:FnX:=⟨20,[.tmp 2],
  .q [.op 2 (.mv (.k (.one (.pv (.string ⟨#[]⟩)))))]
 (.seq (.q [.m 4 0,.B 5 .leq 4 0]
 (.c 5 (.q [.op 2 (.mv (.k (.one (.pv (.string ⟨#[109,48]⟩)))))]
 .ret)))
 (.q [.op 3 (.mv (.k (.one (.pv (.string ⟨#[]⟩)))))]
 (.seq (.block 0 (.loop [0,3] (.seq (.q [.m 6 0,.B 7 .gtr 6 0]
 (.cond 7 .skip (.exit 0)))
 (.block 1 (.q [.m 8 0,.B 9 .rem 8 10,.op 10 (.bin .add (.i 48) (.t 9)),.op 11 (.conv (.int .u8) (.t 10)),.op 12 (.bslice 1 [(.t 11)]),.op 13 (.conv .b2s (.t 12)),.m 14 3,.b 15 .add 13 14,.m 3 15]
 (.reg [.m 16 0,.B 17 .quo 16 10,.m 0 17]))))))
 (.norm [3] (.q [.m 18 3,.op 19 (.bin .add (.k (.one (.pv (.string ⟨#[109]⟩)))) (.t 18)),.m 2 19]
 .ret)))))⟩
theorem r_l_markText {Te:TE}:C_l_markText (RF Te x_l_markText):=by
 intro k hk
 refine run0 ?_
 simp -implicitDefEqProofs (maxSteps:=1000000) only [x_l_markText,go_sem]
 refine ⟨fun h=>?_,fun h=>?_⟩
 ·simp only [decide_eq_true_eq] at h
  simp only [mkS,if_pos h]
 ·simp only [decide_eq_false_iff_not] at h
  refine loop_of (σ:=Nat×ByteArray) (fun x=>⟨[(0,.one (.pv (.int .i64 x.1))),(3,.one (.pv (.string x.2)))],[],[(0,[iT k])]⟩) (fun x=>x.2.size≤15∧x.1 * 10 ^ x.2.size≤2 ^ 48∧digs k.toNat ⟨#[]⟩=digs x.1 x.2) (fun x=>x.1) (k.toNat,⟨#[]⟩) ?_ ?_ ?_
  ·simp -implicitDefEqProofs (maxSteps:=1000000) only [go_sem]
   rw [Int.toNat_of_nonneg hk.1]
  ·exact ⟨by simp [ByteArray.size],by simp [ByteArray.size]; omega,rfl⟩
  ·rintro ⟨j,s⟩ ⟨h1,h2,h3⟩
   simp only at h1 h2 h3
   simp -implicitDefEqProofs (maxSteps:=1000000) only [go_sem]
   have hj:j≤2 ^ 48:=Nat.le_trans (Nat.le_mul_of_pos_right j (Nat.pow_pos (by decide))) h2
   refine ⟨fun h0=>?_,fun h0=>?_⟩
   ·have h0':0 < j:=by simp only [decide_eq_true_eq] at h0; omega
    have hs:s.size≤14:=by
     by_cases h15:s.size≤14
     ·exact h15
     ·have e1:=Nat.pow_le_pow_right (n:=10) (by decide) (show 15≤s.size by omega)
      have e2:=Nat.le_mul_of_pos_left (10 ^ s.size) h0'
      omega
    have em:(j:Int).tmod 10=((j % 10:Nat):Int):=by rw [Int.tmod_eq_emod_of_nonneg (by omega)]; rfl
    have ed:(j:Int).tdiv 10=((j / 10:Nat):Int):=by rw [Int.tdiv_eq_ediv_of_nonneg (by omega)]; rfl
    have hlt:j % 10 < 10:=Nat.mod_lt _ (by decide)
    rw [em,ed,IntWalk.i64_in _ (by omega),IntWalk.i64_in _ (by omega),IntWalk.u8_in _ (by omega)]
    refine ⟨rfl,?_⟩
    have e5:bytesOf [[(Tr.pv (Value.int IntKind.u8 (48 + ((j % 10:Nat):Int))):T)]]=[UInt8.ofNat (48 + j % 10)]:=by
     simp only [bytesOf,List.map_cons,List.map_nil,List.headD_cons,byteOf]
     rw [show (48 + ((j % 10:Nat):Int)).toNat=48 + j % 10 by omega]
    rw [e5,show decide ([UInt8.ofNat (48 + j % 10)].toArray.size + s.size≤4294967296)=true by simp; omega]
    simp only [cond_true,onSome]
    have esz:((⟨[UInt8.ofNat (48 + j % 10)].toArray⟩:ByteArray)++s).size=s.size + 1:=by rw [ByteArray.size_append]; show 1 + s.size=s.size + 1; omega
    refine ⟨(j / 10,⟨[UInt8.ofNat (48 + j % 10)].toArray⟩++s),rfl,⟨by simp only [esz]; omega,?_,?_⟩,Nat.div_lt_self h0' (by decide)⟩
    ·simp only [esz]
     have e6:j / 10 * 10 ^ (s.size + 1)=(j / 10 * 10) * 10 ^ s.size:=by rw [Nat.pow_succ,Nat.mul_assoc,Nat.mul_comm 10]
     rw [e6]
     exact Nat.le_trans (Nat.mul_le_mul_right _ (by omega)) h2
    ·rw [h3,digs,dif_neg (by omega)]
   ·have h0':j=0:=by simp only [decide_eq_false_iff_not] at h0; omega
    subst h0'
    rw [show decide (#[(109:UInt8)].size + s.size≤4294967296)=true by simp; omega]
    simp only [cond_true,onSome]
    have e0:digs 0 s=s:=by rw [digs,dif_pos rfl]
    rw [e0] at h3
    simp only [mkS,if_neg h,h3]
def x_s_NodeLoad:FnX:=⟨60,[.cell 6 (some 10),.tmp 7],
  .q [.v 3 0,.op 6 (.alloc [.nils 1,.nils 2,.i 0,.F,.nils 7,.i 0,.nils 3,.i 0,.i 0,.i 0]),.i 7 0]
 (.q [.L 12 10 3,.c 13 27 [12],.op 8 (.alloc [.nils 1,.nils 2,.i 0,.F,.nils 7,.i 0,.nils 3,.i 0,.i 0,.i 0]),.s 100001 10 8 13]
 (.seq (.block 0 (.q [.L 15 10 3,.c 16 28 [15],.N 17 16,.m 18 17,.z 18 (.m 19 1),.z 18 (.c 20 29 [19]),.z 18 (.N 21 20),.r 22 18 21,.m 23 22,.z 23 (.m 24 2),.z 23 (.n 25 24),.z 23 (.B 26 .gtr 25 20),.r 27 23 26,.m 14 27]
 (.cond 14 (.q [.L 28 10 8,.s 100002 10 6 28,.i 7 1]
 .ret) (.q [.f 30 3 0,.f 31 30 4,.f 32 31 1,.l 33 32,.B 34 .neq 33 0,.m 29 34]
 (.c 29 (.q [.L 35 10 8,.s 100003 10 6 35,.i 7 6]
 .ret))))))
 (.q [.f 37 3 9,.l 38 37,.m 39 2,.c 40 30 [38,39],.m 36 40,.e 41 36 0,.e 42 36 1,.m 9 41,.m 10 42]
 (.seq (.draw [.m 43 1,.f 44 3 9,.l 45 44,.op 46 (.bslice 1 []),.m 47 2,.op 48 (.app 1 1 (.t 46) (.t 47)),.op 49 (.build [.i 0,.nils 1] [(0,1,(.t 45)),(1,1,(.t 48))]),.m 50 10,.N 51 50,.op 52 (.build [.e,.i 0,.nils 1,.i 0,.nils 1,.i 0,.F] [(0,1,(.t 43)),(1,2,(.t 49)),(5,1,(.i 1)),(6,1,(.t 51))]),.op 11 (.alloc [.e,.i 0,.nils 1,.i 0,.nils 1,.i 0,.F]),.s 100004 7 11 52] [[],[],[1],[],[],[3,4],[2,5],[],[7],[0,6,8],[],[10,9,5,0,1,2,3,4,5,6,7,8,9,10]])
 (.seq (.q [.f 53 8 0,.L 54 7 11,.op 55 (.build [.i 0,.e,.i 0,.nils 1,.i 0,.nils 1,.i 0,.F,.e,.i 0,.i 0,.i 0,.i 0] [(0,1,(.i 1)),(1,7,(.t 54))]),.op 56 (.call 31 [11,0] [(.t 53),(.t 55)]),.N 57 56]
 (.c 57 (.q [.L 58 10 8,.s 100005 10 6 58,.i 7 5]
 .ret)))
 (.q [.L 59 10 8,.s 100006 10 6 59,.i 7 0]
 .ret))))))⟩
theorem r_s_NodeLoad {Te:TE} (c_s_l15Copy:C_s_l15Copy Te) (c_s_l15Up:C_s_l15Up Te) (c_s_NameOk:C_s_NameOk Te) (c_s_Decode:C_s_Decode Te) (c_s_l13Add:C_s_l13Add Te):C_s_NodeLoad (RF Te x_s_NodeLoad):=by
 intro n key b hn hk hb
 have hL:=hn.len (by decide)
 refine X0 x_s_NodeLoad.eq_1 ?_
 refine C0 (c_s_l15Copy n hL) ?_
 refine C0 (c_s_l15Up n (hn.mono (by decide))) ?_
 cases g1:n.up
 ·have e:n.load key b=(n,1):=by rw [NodeV.load,g1]; rfl
  exact F1 e
 obtain ⟨k1,k2,_⟩:=up_ok g1
 refine G0 ?_
 refine C0 (c_s_NameOk key (by omega)) ?_
 cases g2:nameOk key
 ·have e:n.load key b=(n,1):=by rw [NodeV.load,g1,g2]; rfl
  exact F1 e
 cases g3:decide ((b.length:Int)≤20)
 ·have e:n.load key b=(n,1):=by rw [NodeV.load,g1,g2,g3]; rfl
  try simp -implicitDefEqProofs (maxSteps:=1000000) only [go_sem,gt20,g3,e,take_all,take_marks]
  repeat refine ⟨sc,?_⟩
  try exact sf
  try rfl
 cases g4:(n.S.T.Phase==0)
 ·have e:n.load key b=(n,6):=by rw [NodeV.load,g1,g2,g3,g4]; rfl
  have g5:(n.S.T.Phase != 0)=true:=by rw [bne_not,g4]; rfl
  try simp -implicitDefEqProofs (maxSteps:=1000000) only [go_sem,gt20,g3,g4,g5,e,take_all,take_marks]
  repeat refine ⟨sc,?_⟩
  try exact sf
  try rfl
 have g5:(n.S.T.Phase != 0)=false:=by rw [bne_not,g4]; rfl
 have e:n.load key b=(n.added (loadRec n key b),bif (n.S.add (loadRec n key b)).2 then 0 else 5):=by rw [NodeV.load,g1,g2,g3,g4]; rfl
 have t2:=c_s_l13Add n.S (loadRec n key b) k1 k2 hn.2 (loadRec_in n hk hb)
 cases g6:(decode n.Cs b).2
 all_goals
  simp only [loadRec,g6,Bool.not_false,Bool.not_true] at t2 e
  try simp -implicitDefEqProofs (maxSteps:=1000000) only [go_sem,gt20,g3,g4,g5]
  repeat refine ⟨sc,?_⟩
  try exact sf
  refine .of (c_s_Decode n.Cs b hb) ?_
  try simp -implicitDefEqProofs (maxSteps:=1000000) only [go_sem,take_rows]
  repeat refine ⟨sc,?_⟩
  try exact sf
  rw [g6]
  try simp -implicitDefEqProofs (maxSteps:=1000000) only [go_sem,g6,take_rows]
  repeat refine ⟨sc,?_⟩
  try exact sf
  refine .of (t2) ?_
  try simp -implicitDefEqProofs (maxSteps:=1000000) only [go_sem,take_all,take_marks]
  repeat refine ⟨sc,?_⟩
  try exact sf
  cases g7:(n.S.add (RecV.mk 1 ⟨key,⟨n.Cs,b⟩,⟨0,[]⟩,1,!(decode n.Cs b).2⟩ ⟨#[]⟩ 0 0 0 0)).2
  all_goals
   rw [g6] at g7
   simp only [Bool.not_false,Bool.not_true] at g7
   try simp -implicitDefEqProofs (maxSteps:=1000000) only [go_sem,g7,e,NodeV.added,NodeV.enc,take_all,take_marks]
   repeat refine ⟨sc,?_⟩
   try exact sf
   try rfl
end Go.X

