/- Texts: CVf_2 CVi_3 CVzm_2 CP CVzf_4 CVa CUc CVzm_3 CVze CVk_2 CVb CVj_5. -/
import Derived.Test.YtmmjaijeeeilcaaGreatDoorD04
set_option linter.unusedVariables false
set_option linter.unusedSimpArgs false
namespace Go.X
set_option maxRecDepth 100000
set_option maxHeartbeats 8000000
def x_Bf:FnX:=⟨85,[.tmp 2],
  .q [.v 1 0,.F 2]
 (.seq (.q [.f 7 1 0,.l 8 7,.n 9 8,.i 10 0]
 (.block 0 (.loop [1,8,9,10] (.q [.b 11 .lss 10 9]
 (.seq (.cond 11 .skip (.exit 0))
 (.seq (.block 1 (.q [.m 12 10,.x 13 7 8 10,.L 14 7 13,.op 4 (.alloc [.e,.i 0,.nils 1,.i 0,.nils 1,.i 0,.F]),.m 3 12,.s 100001 7 4 14]
 (.seq (.draw [.L 15 7 4,.c 16 253 [15],.N 17 16,.m 18 17,.z 18 (.m 19 3),.z 18 (.B 20 .gtr 19 0),.z 18 (.m 21 20),.y 21 (.f 22 1 0),.y 21 (.l 23 22),.y 21 (.m 24 3),.y 21 (.B 25 .sub 24 1),.y 21 (.x 26 7 23 25),.y 21 (.f 27 26 0),.y 21 (.l 28 27),.y 21 (.f 29 4 0),.y 21 (.l 30 29),.y 21 (.b 31 .geq 28 30),.z 18 (.a 32 21 31),.r 33 18 32] [[],[0],[1],[2,1],[3],[4,3],[5,3,3],[6],[7,6],[6],[9,6],[8,10,6],[11,6],[12,6],[6],[14,6],[13,15,6],[6,16,3],[3,17]])
 (.c 33 (.q [.F 2]
 .ret)))))
 (.reg [.B 34 .add 10 1,.m 10 34])))))))
 (.norm [1] (.seq (.q [.f 35 1 2,.l 36 35,.n 37 36,.i 38 0]
 (.block 2 (.loop [1,36,37,38] (.q [.b 39 .lss 38 37]
 (.seq (.cond 39 .skip (.exit 2))
 (.seq (.block 3 (.q [.m 40 38,.x 41 3 36 38,.L 42 3 41,.op 6 (.alloc [.i 0,.i 0,.i 0]),.m 5 40,.s 100002 3 6 42]
 (.seq (.draw [.f 43 6 0,.l 44 43,.op 45 (.call 90 [0,0,0] [(.t 44),(.i 1),(.i 9)]),.N 46 45,.m 47 46,.z 47 (.f 48 6 1),.z 47 (.l 49 48),.z 47 (.c 50 247 [49]),.z 47 (.N 51 50),.r 52 47 51,.m 53 52,.z 53 (.f 54 6 2),.z 53 (.l 55 54),.z 53 (.op 56 (.call 90 [0,0,0] [(.t 55),(.i 0),(.i 6)])),.z 53 (.N 57 56),.r 58 53 57,.m 59 58,.z 59 (.m 60 5),.z 59 (.B 61 .gtr 60 0),.z 59 (.m 62 61),.y 62 (.f 63 1 2),.y 62 (.l 64 63),.y 62 (.m 65 5),.y 62 (.B 66 .sub 65 1),.y 62 (.x 67 3 64 66),.y 62 (.f 68 67 0),.y 62 (.l 69 68),.y 62 (.f 70 6 0),.y 62 (.l 71 70),.y 62 (.b 72 .geq 69 71),.z 59 (.a 73 62 72),.r 74 59 73] [[],[0],[1],[2],[3,2],[4],[5,4],[6,4,4],[7,4],[4,8],[9,7],[10],[11,10],[12,10,10],[13,10],[10,14],[15,13],[16],[17,16],[18,16,16],[19],[20,19],[19],[22,19],[21,23,19],[24,19],[25,19],[19],[27,19],[26,28,19],[19,29,16],[16,30]])
 (.c 74 (.q [.F 2]
 .ret)))))
 (.reg [.B 75 .add 38 1,.m 38 75])))))))
 (.norm [1] (.q [.f 76 1 0,.l 77 76,.n 78 77,.B 79 .leq 78 8,.m 80 79,.y 80 (.f 81 1 1),.y 80 (.l 82 81),.y 80 (.op 83 (.call 90 [0,0,0] [(.t 82),(.i 0),(.i 7)])),.a 84 80 83,.m 2 84]
 .ret)))))⟩
theorem r_Bf {Te:TE} (c_B6:C_B6 Te) (c_Ch:C_Ch Te) (c_C0:C_C0 Te):C_Bf (RF Te x_Bf):=by
 intro t h
 obtain ⟨⟨hl,hR⟩,hM⟩:=h
 refine X0 x_Bf.eq_1 ?_
 refine loop_of (σ:=Nat) (fun i=>⟨[(1,.bp 1 0),(8,.one (.ro 7 (t.Rows.map (RowV.enc false)))),(9,.one (.pv (.int .i64 t.Rows.length))),(10,.one (.pv (.int .i64 i)))],[(1,[.ro 7 (t.Rows.map (RowV.enc false)),.pv (.int .i64 t.Phase),.ro 3 (t.Marks.map MarkV.row)])],[(0,t.enc false)]⟩) (fun i=>i≤t.Rows.length∧∀ j,j < i→rowGood t.Rows j=true) (fun i=>t.Rows.length - i) 0 ?_ ⟨Nat.zero_le _,fun j hj=>absurd hj (Nat.not_lt_zero _)⟩ ?_
 ·simp -implicitDefEqProofs (maxSteps:=1000000) only [go_sem]
  try rfl
 ·rintro i ⟨hi,hp⟩
  cases q:decide ((i:Int) < (t.Rows.length:Int))
  ·have eR:=rng_end (f:=rowGood t.Rows) (show t.Rows.length≤i by simp only [decide_eq_false_iff_not] at q; omega) hp
   refine G1 q ?_
   refine loop_of (σ:=Nat) (fun i=>⟨[(1,.bp 1 0),(36,.one (.ro 3 (t.Marks.map MarkV.row))),(37,.one (.pv (.int .i64 t.Marks.length))),(38,.one (.pv (.int .i64 i)))],[(1,[.ro 7 (t.Rows.map (RowV.enc false)),.pv (.int .i64 t.Phase),.ro 3 (t.Marks.map MarkV.row)])],[(0,t.enc false)]⟩) (fun i=>i≤t.Marks.length∧∀ j,j < i→markGood t.Marks j=true) (fun i=>t.Marks.length - i) 0 ?_ ⟨Nat.zero_le _,fun j hj=>absurd hj (Nat.not_lt_zero _)⟩ ?_
   ·simp -implicitDefEqProofs (maxSteps:=1000000) only [go_sem]
    try rfl
   ·rintro i ⟨hi,hp⟩
    cases q:decide ((i:Int) < (t.Marks.length:Int))
    ·have eM:=rng_end (f:=markGood t.Marks) (show t.Marks.length≤i by simp only [decide_eq_false_iff_not] at q; omega) hp
     refine G1 q ?_
     cases gl:decide ((t.Rows.length:Int)≤8)
     ·have e:t.ok=false:=by simp only [TabV.ok,gl,Bool.and_false,Bool.false_and]
      exact F2 gl e
     ·have e:t.ok=win t.Phase 0 7:=by simp only [TabV.ok,eR,eM,gl,Bool.true_and]
      refine G1 gl ?_
      exact D1 (c_Ch _ _ _) e
    ·have k1:i < t.Marks.length:=by simp only [decide_eq_true_eq] at q; omega
     cases i with
     | zero =>
      have z:decide (((0:Nat):Int) > 0)=false:=rfl
      have good0:=markGood_zero k1
      refine G3 q (List.getElem?_eq_getElem k1) z ?_
      refine C0 (c_Ch _ _ _) ?_
      cases a1:win t.Marks[0].Who 1 9
      ·have g:t.Marks[0].ok=false:=by simp only [MarkV.ok,a1,Bool.false_and]
       have e:t.ok=false:=by simp only [TabV.ok,rng_not k1 (good0.trans g),Bool.and_false,Bool.false_and]
       exact F1 e
      refine G0 ?_
      refine C0 (c_C0 _) ?_
      cases a2:win t.Marks[0].Seq 0 65535
      ·have g:t.Marks[0].ok=false:=by simp only [MarkV.ok,a2,Bool.and_false,Bool.false_and]
       have e:t.ok=false:=by simp only [TabV.ok,rng_not k1 (good0.trans g),Bool.and_false,Bool.false_and]
       exact F1 e
      refine G0 ?_
      refine C0 (c_Ch _ _ _) ?_
      cases a3:win t.Marks[0].Code 0 6
      ·have g:t.Marks[0].ok=false:=by simp only [MarkV.ok,a3,Bool.and_false]
       have e:t.ok=false:=by simp only [TabV.ok,rng_not k1 (good0.trans g),Bool.and_false,Bool.false_and]
       exact F1 e
      have g:t.Marks[0].ok=true:=by simp only [MarkV.ok,a1,a2,a3,Bool.and_true]
      refine G1 z ?_
      refine ⟨1,by rw [IntWalk.i64_in _ (by omega)]; rfl,⟨k1,rng_step hp (good0.trans g)⟩,by omega⟩
     | succ j =>
      have k0:j < t.Marks.length:=by omega
      have z:decide (((j + 1:Nat):Int) > 0)=true:=decide_eq_true (by omega)
      have ew:IntKind.i64.wrap (((j + 1:Nat):Int) - 1)=(j:Int):=by rw [IntWalk.i64_in _ (by omega)]; omega
      have good1:=markGood_succ k1
      refine G3 q (List.getElem?_eq_getElem k1) z ?_
      refine C0 (c_Ch _ _ _) ?_
      cases a1:win t.Marks[j + 1].Who 1 9
      ·have g:t.Marks[j + 1].ok=false:=by simp only [MarkV.ok,a1,Bool.false_and]
       have gg:markGood t.Marks (j + 1)=false:=by rw [good1,g,Bool.false_and]
       have e:t.ok=false:=by simp only [TabV.ok,rng_not k1 gg,Bool.and_false,Bool.false_and]
       exact F1 e
      refine G0 ?_
      refine C0 (c_C0 _) ?_
      cases a2:win t.Marks[j + 1].Seq 0 65535
      ·have g:t.Marks[j + 1].ok=false:=by simp only [MarkV.ok,a2,Bool.and_false,Bool.false_and]
       have gg:markGood t.Marks (j + 1)=false:=by rw [good1,g,Bool.false_and]
       have e:t.ok=false:=by simp only [TabV.ok,rng_not k1 gg,Bool.and_false,Bool.false_and]
       exact F1 e
      refine G0 ?_
      refine C0 (c_Ch _ _ _) ?_
      cases a3:win t.Marks[j + 1].Code 0 6
      ·have g:t.Marks[j + 1].ok=false:=by simp only [MarkV.ok,a3,Bool.and_false]
       have gg:markGood t.Marks (j + 1)=false:=by rw [good1,g,Bool.false_and]
       have e:t.ok=false:=by simp only [TabV.ok,rng_not k1 gg,Bool.and_false,Bool.false_and]
       exact F1 e
      have g:t.Marks[j + 1].ok=true:=by simp only [MarkV.ok,a1,a2,a3,Bool.and_true]
      cases g2:decide (t.Marks[j].Who≥t.Marks[j + 1].Who)
      ·have gg:markGood t.Marks (j + 1)=true:=by rw [good1,g,g2]; rfl
       try simp -implicitDefEqProofs (maxSteps:=1000000) only [go_sem,z,ew,List.getElem?_eq_getElem k0,List.getElem?_eq_getElem k1,g2]
       repeat refine ⟨sc,?_⟩
       try exact sf
       refine ⟨j + 2,by rw [IntWalk.i64_in _ (by omega)]; rfl,⟨k1,rng_step hp gg⟩,by omega⟩
      ·have gg:markGood t.Marks (j + 1)=false:=by rw [good1,g2]; simp only [Bool.not_true,Bool.and_false]
       have e:t.ok=false:=by simp only [TabV.ok,rng_not k1 gg,Bool.and_false,Bool.false_and]
       try simp -implicitDefEqProofs (maxSteps:=1000000) only [go_sem,z,ew,List.getElem?_eq_getElem k0,List.getElem?_eq_getElem k1,g2,e]
       repeat refine ⟨sc,?_⟩
       try exact sf
  ·have k1:i < t.Rows.length:=by simp only [decide_eq_true_eq] at q; omega
   cases i with
   | zero =>
    have z:decide (((0:Nat):Int) > 0)=false:=rfl
    have good0:=rowGood_zero k1
    refine G3 q (List.getElem?_eq_getElem k1) z ?_
    refine C0 (c_B6 t.Rows[0] (hR _ (List.getElem_mem k1))) ?_
    cases g:t.Rows[0].ok
    ·have e:t.ok=false:=by simp only [TabV.ok,rng_not k1 (good0.trans g),Bool.false_and]
     exact F1 e
    ·refine G1 z ?_
     refine ⟨1,by rw [IntWalk.i64_in _ (by omega)]; rfl,⟨k1,rng_step hp (good0.trans g)⟩,by omega⟩
   | succ j =>
    have k0:j < t.Rows.length:=by omega
    have z:decide (((j + 1:Nat):Int) > 0)=true:=decide_eq_true (by omega)
    have ew:IntKind.i64.wrap (((j + 1:Nat):Int) - 1)=(j:Int):=by rw [IntWalk.i64_in _ (by omega)]; omega
    have good1:=rowGood_succ k1
    refine G3 q (List.getElem?_eq_getElem k1) z ?_
    refine C0 (c_B6 t.Rows[j + 1] (hR _ (List.getElem_mem k1))) ?_
    cases g:t.Rows[j + 1].ok
    ·have gg:rowGood t.Rows (j + 1)=false:=by rw [good1,g,Bool.false_and]
     have e:t.ok=false:=by simp only [TabV.ok,rng_not k1 gg,Bool.false_and]
     exact F1 e
    ·cases g2:Op.bytesLess t.Rows[j].Key.toList t.Rows[j + 1].Key.toList
     ·have gg:rowGood t.Rows (j + 1)=false:=by rw [good1,g2,Bool.and_false]
      have e:t.ok=false:=by simp only [TabV.ok,rng_not k1 gg,Bool.false_and]
      try simp -implicitDefEqProofs (maxSteps:=1000000) only [go_sem,z,ew,List.getElem?_eq_getElem k0,List.getElem?_eq_getElem k1,g2,e]
      repeat refine ⟨sc,?_⟩
      try exact sf
     ·have gg:rowGood t.Rows (j + 1)=true:=by rw [good1,g,g2]; rfl
      try simp -implicitDefEqProofs (maxSteps:=1000000) only [go_sem,z,ew,List.getElem?_eq_getElem k0,List.getElem?_eq_getElem k1,g2]
      repeat refine ⟨sc,?_⟩
      try exact sf
      refine ⟨j + 2,by rw [IntWalk.i64_in _ (by omega)]; rfl,⟨k1,rng_step hp gg⟩,by omega⟩
def x_B1:FnX:=⟨98,[.tmp 2],
  .q [.v 1 0,.F 2]
 (.seq (.draw [.f 6 1 1,.L 7 7 6,.op 8 (.build [.e,.i 0,.nils 1,.i 0,.nils 1,.i 0,.F] []),.c 9 85 [7,8],.f 10 1 8,.l 11 10,.op 12 (.bin .eql (.t 11) (.k (.one (.pv (.string ⟨#[]⟩))))),.m 3 9,.m 4 12] [[],[0],[],[1,2],[],[4],[5],[3,3,0,1,2,3],[6,7,0,1,2,3,4,5,6,7]])
 (.q [.F 5]
 (.seq (.q [.f 13 1 0,.l 14 13]
 (.block 0 (.q [.B 16 .eql 14 1,.m 15 16]
 (.cond 15 (.reg [.f 17 1 1,.L 18 7 17,.c 19 253 [18],.m 20 19,.y 20 (.m 21 4),.a 22 20 21,.m 23 22,.y 23 (.f 24 1 9),.y 23 (.l 25 24),.y 23 (.B 26 .eql 25 0),.a 27 23 26,.m 5 27]) (.q [.B 29 .eql 14 2,.m 28 29]
 (.cond 28 (.reg [.m 30 3,.m 31 30,.y 31 (.f 32 1 8),.y 31 (.l 33 32),.y 31 (.c 34 98 [33]),.a 35 31 34,.m 36 35,.y 36 (.f 37 1 9),.y 36 (.l 38 37),.y 36 (.B 39 .eql 38 0),.a 40 36 39,.m 5 40]) (.q [.B 42 .eql 14 3,.m 41 42]
 (.cond 41 (.reg [.m 43 3,.m 44 43,.y 44 (.m 45 4),.a 46 44 45,.m 47 46,.y 47 (.f 48 1 9),.y 47 (.l 49 48),.y 47 (.op 50 (.call 90 [0,0,0] [(.t 49),(.i 0),(.i 7)])),.a 51 47 50,.m 5 51]) (.q [.B 53 .eql 14 4,.m 52 53]
 (.c 52 (.reg [.m 54 3,.m 55 54,.y 55 (.m 56 4),.a 57 55 56,.m 58 57,.y 58 (.f 59 1 9),.y 58 (.l 60 59),.y 58 (.B 61 .eql 60 0),.a 62 58 61,.m 63 62,.y 63 (.f 64 1 10),.y 63 (.l 65 64),.y 63 (.B 66 .neq 65 0),.a 67 63 66,.m 5 67])))))))))))
 (.seq (.q [.f 68 1 10,.l 69 68,.B 70 .eql 69 0]
 (.c 70 (.q [.m 71 5,.m 72 71,.y 72 (.f 73 1 11),.y 72 (.l 74 73),.y 72 (.B 75 .eql 74 0),.a 76 72 75,.m 77 76,.y 77 (.f 78 1 12),.y 77 (.l 79 78),.y 77 (.B 80 .eql 79 0),.a 81 77 80,.m 2 81]
 .ret)))
 (.q [.m 82 5,.m 83 82,.y 83 (.f 84 1 10),.y 83 (.l 85 84),.y 83 (.op 86 (.call 90 [0,0,0] [(.t 85),(.i 1),(.i 9)])),.a 87 83 86,.m 88 87,.y 88 (.f 89 1 11),.y 88 (.l 90 89),.y 88 (.c 91 247 [90]),.a 92 88 91,.m 93 92,.y 93 (.f 94 1 12),.y 93 (.l 95 94),.y 93 (.op 96 (.call 90 [0,0,0] [(.t 95),(.i 0),(.i 6)])),.a 97 93 96,.m 2 97]
 .ret)))))⟩
theorem r_B1 {Te:TE} (c_Ca:C_Ca Te) (c_B6:C_B6 Te) (c_Am:C_Am Te) (c_Ch:C_Ch Te) (c_C0:C_C0 Te):C_B1 (RF Te x_B1):=by
 intro r h
 refine run0 ?_
 have hR:=h.1
 have hK:=h.2
 obtain ⟨kind,R,key,n,who,seq,code⟩:=r
 simp only at hR hK
 have ts:=c_Ca R RowV.zero
 rw [rowSame_zero] at ts
 simp -implicitDefEqProofs (maxSteps:=1000000) only [x_B1,go_sem,bytes_beq]
 repeat refine ⟨sc,?_⟩
 try exact sf
 refine .of (ts) ?_
 try simp -implicitDefEqProofs (maxSteps:=1000000) only [go_sem,bytes_beq]
 repeat refine ⟨sc,?_⟩
 try exact sf
 by_cases q1:kind=1
 ·subst q1
  refine G0 ?_
  refine C0 (c_B6 R hR) ?_
  cases g1:R.ok
  ·refine G1 g1 ?_
   cases g0:(who==0)
   ·try simp -implicitDefEqProofs (maxSteps:=1000000) only [go_sem,g0,RecV.ok,RecV.body,RecV.who,g1]
    repeat refine ⟨sc,?_⟩
    try exact sf
   ·try simp -implicitDefEqProofs (maxSteps:=1000000) only [go_sem,g0,RecV.ok,RecV.body,RecV.who,g1]
    repeat refine ⟨sc,?_⟩
    try exact sf
  refine G1 g1 ?_
  cases g2:decide (key=⟨#[]⟩)
  ·refine G2 g1 g2 ?_
   cases g0:(who==0)
   ·try simp -implicitDefEqProofs (maxSteps:=1000000) only [go_sem,g0,RecV.ok,RecV.body,RecV.who,g1,g2]
    repeat refine ⟨sc,?_⟩
    try exact sf
   ·try simp -implicitDefEqProofs (maxSteps:=1000000) only [go_sem,g0,RecV.ok,RecV.body,RecV.who,g1,g2]
    repeat refine ⟨sc,?_⟩
    try exact sf
  refine G1 g2 ?_
  cases g3:(n==0)
  ·refine G3 g1 g2 g3 ?_
   cases g0:(who==0)
   ·try simp -implicitDefEqProofs (maxSteps:=1000000) only [go_sem,g0,RecV.ok,RecV.body,RecV.who,g1,g2,g3]
    repeat refine ⟨sc,?_⟩
    try exact sf
   ·try simp -implicitDefEqProofs (maxSteps:=1000000) only [go_sem,g0,RecV.ok,RecV.body,RecV.who,g1,g2,g3]
    repeat refine ⟨sc,?_⟩
    try exact sf
  refine G1 g3 ?_
  cases g0:(who==0)
  ·refine G1 g0 ?_
   refine C0 (c_Ch _ _ _) ?_
   cases h1:win who 1 9
   ·try simp -implicitDefEqProofs (maxSteps:=1000000) only [go_sem,g0,h1,RecV.ok,RecV.body,RecV.who,g1,g2,g3]
    repeat refine ⟨sc,?_⟩
    try exact sf
   refine G0 ?_
   refine C0 (c_C0 _) ?_
   cases h2:win seq 0 65535
   ·try simp -implicitDefEqProofs (maxSteps:=1000000) only [go_sem,g0,h1,h2,RecV.ok,RecV.body,RecV.who,g1,g2,g3]
    repeat refine ⟨sc,?_⟩
    try exact sf
    try rfl
   refine G0 ?_
   refine .of (c_Ch _ _ _) ?_
   try simp -implicitDefEqProofs (maxSteps:=1000000) only [go_sem,g0,h1,h2,RecV.ok,RecV.body,RecV.who,g1,g2,g3]
   repeat refine ⟨sc,?_⟩
   try exact sf
  ·refine G1 g0 ?_
   cases h1:(seq==0)
   ·try simp -implicitDefEqProofs (maxSteps:=1000000) only [go_sem,g0,h1,RecV.ok,RecV.body,RecV.who,g1,g2,g3]
    repeat refine ⟨sc,?_⟩
    try exact sf
   refine G1 h1 ?_
   cases h2:(code==0)
   ·try simp -implicitDefEqProofs (maxSteps:=1000000) only [go_sem,g0,h1,h2,RecV.ok,RecV.body,RecV.who,g1,g2,g3]
    repeat refine ⟨sc,?_⟩
    try exact sf
    try rfl
   try simp -implicitDefEqProofs (maxSteps:=1000000) only [go_sem,g0,h1,h2,RecV.ok,RecV.body,RecV.who,g1,g2,g3]
   repeat refine ⟨sc,?_⟩
   try exact sf
   try rfl
 by_cases q2:kind=2
 ·subst q2
  refine G0 ?_
  cases g1:R.no
  ·refine G1 g1 ?_
   cases g0:(who==0)
   ·try simp -implicitDefEqProofs (maxSteps:=1000000) only [go_sem,g0,RecV.ok,RecV.body,RecV.who,g1]
    repeat refine ⟨sc,?_⟩
    try exact sf
   ·try simp -implicitDefEqProofs (maxSteps:=1000000) only [go_sem,g0,RecV.ok,RecV.body,RecV.who,g1]
    repeat refine ⟨sc,?_⟩
    try exact sf
  refine G1 g1 ?_
  refine C0 (c_Am key hK) ?_
  cases g2:nameOk key
  ·refine G2 g1 g2 ?_
   cases g0:(who==0)
   ·try simp -implicitDefEqProofs (maxSteps:=1000000) only [go_sem,g0,RecV.ok,RecV.body,RecV.who,g1,g2]
    repeat refine ⟨sc,?_⟩
    try exact sf
   ·try simp -implicitDefEqProofs (maxSteps:=1000000) only [go_sem,g0,RecV.ok,RecV.body,RecV.who,g1,g2]
    repeat refine ⟨sc,?_⟩
    try exact sf
  refine G1 g2 ?_
  cases g3:(n==0)
  ·refine G3 g1 g2 g3 ?_
   cases g0:(who==0)
   ·try simp -implicitDefEqProofs (maxSteps:=1000000) only [go_sem,g0,RecV.ok,RecV.body,RecV.who,g1,g2,g3]
    repeat refine ⟨sc,?_⟩
    try exact sf
   ·try simp -implicitDefEqProofs (maxSteps:=1000000) only [go_sem,g0,RecV.ok,RecV.body,RecV.who,g1,g2,g3]
    repeat refine ⟨sc,?_⟩
    try exact sf
  refine G1 g3 ?_
  cases g0:(who==0)
  ·refine G1 g0 ?_
   refine C0 (c_Ch _ _ _) ?_
   cases h1:win who 1 9
   ·try simp -implicitDefEqProofs (maxSteps:=1000000) only [go_sem,g0,h1,RecV.ok,RecV.body,RecV.who,g1,g2,g3]
    repeat refine ⟨sc,?_⟩
    try exact sf
   refine G0 ?_
   refine C0 (c_C0 _) ?_
   cases h2:win seq 0 65535
   ·try simp -implicitDefEqProofs (maxSteps:=1000000) only [go_sem,g0,h1,h2,RecV.ok,RecV.body,RecV.who,g1,g2,g3]
    repeat refine ⟨sc,?_⟩
    try exact sf
    try rfl
   refine G0 ?_
   refine .of (c_Ch _ _ _) ?_
   try simp -implicitDefEqProofs (maxSteps:=1000000) only [go_sem,g0,h1,h2,RecV.ok,RecV.body,RecV.who,g1,g2,g3]
   repeat refine ⟨sc,?_⟩
   try exact sf
  ·refine G1 g0 ?_
   cases h1:(seq==0)
   ·try simp -implicitDefEqProofs (maxSteps:=1000000) only [go_sem,g0,h1,RecV.ok,RecV.body,RecV.who,g1,g2,g3]
    repeat refine ⟨sc,?_⟩
    try exact sf
   refine G1 h1 ?_
   cases h2:(code==0)
   ·try simp -implicitDefEqProofs (maxSteps:=1000000) only [go_sem,g0,h1,h2,RecV.ok,RecV.body,RecV.who,g1,g2,g3]
    repeat refine ⟨sc,?_⟩
    try exact sf
    try rfl
   try simp -implicitDefEqProofs (maxSteps:=1000000) only [go_sem,g0,h1,h2,RecV.ok,RecV.body,RecV.who,g1,g2,g3]
   repeat refine ⟨sc,?_⟩
   try exact sf
   try rfl
 by_cases q3:kind=3
 ·subst q3
  refine G0 ?_
  cases g1:R.no
  ·refine G1 g1 ?_
   cases g0:(who==0)
   ·try simp -implicitDefEqProofs (maxSteps:=1000000) only [go_sem,g0,RecV.ok,RecV.body,RecV.who,g1]
    repeat refine ⟨sc,?_⟩
    try exact sf
   ·try simp -implicitDefEqProofs (maxSteps:=1000000) only [go_sem,g0,RecV.ok,RecV.body,RecV.who,g1]
    repeat refine ⟨sc,?_⟩
    try exact sf
  refine G1 g1 ?_
  cases g2:decide (key=⟨#[]⟩)
  ·refine G2 g1 g2 ?_
   cases g0:(who==0)
   ·try simp -implicitDefEqProofs (maxSteps:=1000000) only [go_sem,g0,RecV.ok,RecV.body,RecV.who,g1,g2]
    repeat refine ⟨sc,?_⟩
    try exact sf
   ·try simp -implicitDefEqProofs (maxSteps:=1000000) only [go_sem,g0,RecV.ok,RecV.body,RecV.who,g1,g2]
    repeat refine ⟨sc,?_⟩
    try exact sf
  refine G1 g2 ?_
  refine C0 (c_Ch _ _ _) ?_
  cases g3:win n 0 7
  ·refine G3 g1 g2 g3 ?_
   cases g0:(who==0)
   ·try simp -implicitDefEqProofs (maxSteps:=1000000) only [go_sem,g0,RecV.ok,RecV.body,RecV.who,g1,g2,g3]
    repeat refine ⟨sc,?_⟩
    try exact sf
   ·try simp -implicitDefEqProofs (maxSteps:=1000000) only [go_sem,g0,RecV.ok,RecV.body,RecV.who,g1,g2,g3]
    repeat refine ⟨sc,?_⟩
    try exact sf
  refine G1 g3 ?_
  cases g0:(who==0)
  ·refine G1 g0 ?_
   refine C0 (c_Ch _ _ _) ?_
   cases h1:win who 1 9
   ·try simp -implicitDefEqProofs (maxSteps:=1000000) only [go_sem,g0,h1,RecV.ok,RecV.body,RecV.who,g1,g2,g3]
    repeat refine ⟨sc,?_⟩
    try exact sf
   refine G0 ?_
   refine C0 (c_C0 _) ?_
   cases h2:win seq 0 65535
   ·try simp -implicitDefEqProofs (maxSteps:=1000000) only [go_sem,g0,h1,h2,RecV.ok,RecV.body,RecV.who,g1,g2,g3]
    repeat refine ⟨sc,?_⟩
    try exact sf
    try rfl
   refine G0 ?_
   refine .of (c_Ch _ _ _) ?_
   try simp -implicitDefEqProofs (maxSteps:=1000000) only [go_sem,g0,h1,h2,RecV.ok,RecV.body,RecV.who,g1,g2,g3]
   repeat refine ⟨sc,?_⟩
   try exact sf
  ·refine G1 g0 ?_
   cases h1:(seq==0)
   ·try simp -implicitDefEqProofs (maxSteps:=1000000) only [go_sem,g0,h1,RecV.ok,RecV.body,RecV.who,g1,g2,g3]
    repeat refine ⟨sc,?_⟩
    try exact sf
   refine G1 h1 ?_
   cases h2:(code==0)
   ·try simp -implicitDefEqProofs (maxSteps:=1000000) only [go_sem,g0,h1,h2,RecV.ok,RecV.body,RecV.who,g1,g2,g3]
    repeat refine ⟨sc,?_⟩
    try exact sf
    try rfl
   try simp -implicitDefEqProofs (maxSteps:=1000000) only [go_sem,g0,h1,h2,RecV.ok,RecV.body,RecV.who,g1,g2,g3]
   repeat refine ⟨sc,?_⟩
   try exact sf
   try rfl
 by_cases q4:kind=4
 ·subst q4
  refine G0 ?_
  cases g1:R.no
  ·refine G1 g1 ?_
   cases g0:(who==0)
   ·try simp -implicitDefEqProofs (maxSteps:=1000000) only [go_sem,g0,RecV.ok,RecV.body,RecV.who,g1]
    repeat refine ⟨sc,?_⟩
    try exact sf
   ·try simp -implicitDefEqProofs (maxSteps:=1000000) only [go_sem,g0,RecV.ok,RecV.body,RecV.who,g1]
    repeat refine ⟨sc,?_⟩
    try exact sf
  refine G1 g1 ?_
  cases g2:decide (key=⟨#[]⟩)
  ·refine G2 g1 g2 ?_
   cases g0:(who==0)
   ·try simp -implicitDefEqProofs (maxSteps:=1000000) only [go_sem,g0,RecV.ok,RecV.body,RecV.who,g1,g2]
    repeat refine ⟨sc,?_⟩
    try exact sf
   ·try simp -implicitDefEqProofs (maxSteps:=1000000) only [go_sem,g0,RecV.ok,RecV.body,RecV.who,g1,g2]
    repeat refine ⟨sc,?_⟩
    try exact sf
  refine G1 g2 ?_
  cases g3:(n==0)
  ·refine G3 g1 g2 g3 ?_
   cases g0:(who==0)
   ·try simp -implicitDefEqProofs (maxSteps:=1000000) only [go_sem,g0,RecV.ok,RecV.body,RecV.who,g1,g2,g3]
    repeat refine ⟨sc,?_⟩
    try exact sf
   ·try simp -implicitDefEqProofs (maxSteps:=1000000) only [go_sem,g0,RecV.ok,RecV.body,RecV.who,g1,g2,g3]
    repeat refine ⟨sc,?_⟩
    try exact sf
  refine G1 g3 ?_
  cases g0:(who==0)
  ·have g9:(who != 0)=true:=by rw [bne,g0]; rfl
   refine G2 g0 g9 ?_
   refine C0 (c_Ch _ _ _) ?_
   cases h1:win who 1 9
   ·try simp -implicitDefEqProofs (maxSteps:=1000000) only [go_sem,g0,h1,RecV.ok,RecV.body,RecV.who,g1,g2,g3]
    repeat refine ⟨sc,?_⟩
    try exact sf
   refine G0 ?_
   refine C0 (c_C0 _) ?_
   cases h2:win seq 0 65535
   ·try simp -implicitDefEqProofs (maxSteps:=1000000) only [go_sem,g0,h1,h2,RecV.ok,RecV.body,RecV.who,g1,g2,g3]
    repeat refine ⟨sc,?_⟩
    try exact sf
    try rfl
   refine G0 ?_
   refine .of (c_Ch _ _ _) ?_
   try simp -implicitDefEqProofs (maxSteps:=1000000) only [go_sem,g0,h1,h2,RecV.ok,RecV.body,RecV.who,g1,g2,g3]
   repeat refine ⟨sc,?_⟩
   try exact sf
  ·have g9:(who != 0)=false:=by rw [bne,g0]; rfl
   refine G2 g0 g9 ?_
   cases h1:(seq==0)
   ·try simp -implicitDefEqProofs (maxSteps:=1000000) only [go_sem,g0,h1,RecV.ok,RecV.body,RecV.who,g1,g2,g3]
    repeat refine ⟨sc,?_⟩
    try exact sf
   cases h2:(code==0)
   ·try simp -implicitDefEqProofs (maxSteps:=1000000) only [go_sem,g0,h1,h2,RecV.ok,RecV.body,RecV.who,g1,g2,g3]
    repeat refine ⟨sc,?_⟩
    try exact sf
    try rfl
   try simp -implicitDefEqProofs (maxSteps:=1000000) only [go_sem,g0,h1,h2,RecV.ok,RecV.body,RecV.who,g1,g2,g3]
   repeat refine ⟨sc,?_⟩
   try exact sf
   try rfl
 obtain ⟨k1,k2,k3,k4⟩:=other_kind q1 q2 q3 q4
 refine G4 k1 k2 k3 k4 ?_
 cases g0:(who==0)
 ·try simp -implicitDefEqProofs (maxSteps:=1000000) only [go_sem,g0,RecV.ok,RecV.body,RecV.who,k1,k2,k3,k4]
  repeat refine ⟨sc,?_⟩
  try exact sf
 ·try simp -implicitDefEqProofs (maxSteps:=1000000) only [go_sem,g0,RecV.ok,RecV.body,RecV.who,k1,k2,k3,k4]
  repeat refine ⟨sc,?_⟩
  try exact sf
def x_F2:FnX:=⟨145,[],
  .q [.m 20 0,.op 21 (.call 96 [5,0] [(.t 20),(.i 8)])]
 (.block 0 (.q [.B 55 .eql 21 0,.m 54 55]
 (.cond 54 (.seq (.draw [.m 57 1,.op 58 (.nilc (.t 57)),.L 59 10 58,.m 60 0,.op 61 (.call 96 [5,0] [(.t 60),(.i 8)]),.c 62 38 [59,61],.m 56 62,.e 63 56 0,.e 64 56 1,.op 4 (.alloc [.nils 1,.nils 2,.i 0,.F,.nils 7,.i 0,.nils 3,.i 0,.i 0,.i 0]),.s 100001 10 4 63,.m 5 64] [[],[0],[1],[],[3],[2,4,4],[5],[6],[6],[],[9,7,5,0,1,2,3,4,5,6,7,9],[8,10,0,1,2,3,4,5,6,7,8,9,10]])
 (.reg [.m 65 1,.L 66 10 4,.op 67 (.nilc (.t 65)),.s 100002 10 67 66])) (.q [.B 69 .eql 21 1,.m 68 69]
 (.cond 68 (.seq (.draw [.m 71 1,.op 72 (.nilc (.t 71)),.L 73 10 72,.m 74 1,.op 75 (.nilc (.t 74)),.f 76 75 0,.f 77 76 4,.f 78 77 1,.l 79 78,.B 80 .add 79 1,.c 81 38 [73,80],.m 70 81,.e 82 70 0,.e 83 70 1,.op 6 (.alloc [.nils 1,.nils 2,.i 0,.F,.nils 7,.i 0,.nils 3,.i 0,.i 0,.i 0]),.s 100003 10 6 82,.m 7 83] [[],[0],[1],[],[3],[4],[5],[6],[7],[8],[2,9],[10],[11],[11],[],[14,12,10,0,1,2,3,4,5,6,7,8,9,10,11,12,14],[13,15,0,1,2,3,4,5,6,7,8,9,10,11,12,13,14,15]])
 (.reg [.m 84 1,.L 85 10 6,.op 86 (.nilc (.t 84)),.s 100004 10 86 85])) (.q [.B 88 .eql 21 2,.m 87 88]
 (.cond 87 (.seq (.draw [.m 90 1,.op 91 (.nilc (.t 90)),.L 92 10 91,.m 93 0,.op 94 (.call 96 [5,0] [(.t 93),(.i 2)]),.op 95 (.bin .add (.i 1) (.t 94)),.m 96 0,.op 97 (.call 96 [5,0] [(.t 96),(.i 30)]),.op 98 (.bin .add (.i 1) (.t 97)),.m 99 0,.op 100 (.call 93 [5] [(.t 99)]),.c 101 35 [92,95,98,100],.m 89 101,.e 102 89 0,.e 103 89 1,.e 104 89 2,.op 8 (.alloc [.nils 1,.nils 2,.i 0,.F,.nils 7,.i 0,.nils 3,.i 0,.i 0,.i 0]),.s 100005 10 8 102,.m 9 103,.m 10 104] [[],[0],[1],[],[3],[4],[],[6,4],[7],[],[9,7],[2,5,8,10,10],[11],[12],[12],[12],[],[16,13,11,0,1,2,3,4,5,6,7,8,9,10,11,12,13,16],[14,17,0,1,2,3,4,5,6,7,8,9,10,11,12,13,14,16,17],[15,18,0,1,2,3,4,5,6,7,8,9,10,11,12,13,14,15,16,17,18]])
 (.reg [.m 105 1,.L 106 10 8,.op 107 (.nilc (.t 105)),.s 100006 10 107 106])) (.q [.B 109 .eql 21 3,.m 108 109]
 (.cond 108 (.seq (.draw [.m 111 1,.op 112 (.nilc (.t 111)),.L 113 10 112,.m 114 0,.op 115 (.call 93 [5] [(.t 114)]),.m 116 0,.m 117 1,.op 118 (.nilc (.t 117)),.f 119 118 9,.l 120 119,.op 121 (.call 97 [5,0] [(.t 116),(.t 120)]),.c 122 29 [113,115,121],.m 110 122,.e 123 110 0,.e 124 110 1,.op 11 (.alloc [.nils 1,.nils 2,.i 0,.F,.nils 7,.i 0,.nils 3,.i 0,.i 0,.i 0]),.s 100007 10 11 123,.m 12 124] [[],[0],[1],[],[3],[],[],[6],[7],[8],[5,9,4],[2,4,10,10],[11],[12],[12],[],[15,13,11,0,1,2,3,4,5,6,7,8,9,10,11,12,13,15],[14,16,0,1,2,3,4,5,6,7,8,9,10,11,12,13,14,15,16]])
 (.reg [.m 125 1,.L 126 10 11,.op 127 (.nilc (.t 125)),.s 100008 10 127 126])) (.q [.B 129 .eql 21 4,.m 128 129]
 (.cond 128 (.seq (.draw [.m 131 1,.op 132 (.nilc (.t 131)),.L 133 10 132,.m 134 0,.op 135 (.bslice 1 [(.k (.one (.pv (.string ⟨#[]⟩)))),(.k (.one (.pv (.string ⟨#[97]⟩)))),(.k (.one (.pv (.string ⟨#[98]⟩))))]),.op 136 (.call 114 [5,1] [(.t 134),(.t 135)]),.c 137 40 [133,136],.m 130 137,.e 138 130 0,.e 139 130 1,.e 140 130 2,.e 141 130 3,.op 13 (.alloc [.nils 1,.nils 2,.i 0,.F,.nils 7,.i 0,.nils 3,.i 0,.i 0,.i 0]),.s 100009 10 13 138,.m 14 139,.m 15 140,.m 16 141] [[],[0],[1],[],[],[3,4],[2,5,5],[6],[7],[7],[7],[7],[],[12,8,6,0,1,2,3,4,5,6,7,8,12],[9,13,0,1,2,3,4,5,6,7,8,9,12,13],[10,14,0,1,2,3,4,5,6,7,8,9,10,12,13,14],[11,15,0,1,2,3,4,5,6,7,8,9,10,11,12,13,14,15]])
 (.reg [.m 142 1,.L 143 10 13,.op 144 (.nilc (.t 142)),.s 100010 10 144 143])) (.seq (.draw [.m 23 1,.op 24 (.nilc (.t 23)),.L 25 10 24,.m 26 0,.op 27 (.call 96 [5,0] [(.t 26),(.i 2)]),.op 28 (.bin .add (.i 1) (.t 27)),.m 29 0,.op 30 (.call 96 [5,0] [(.t 29),(.i 30)]),.op 31 (.bin .add (.i 1) (.t 30)),.m 32 0,.op 33 (.call 93 [5] [(.t 32)]),.m 34 0,.m 35 0,.m 36 1,.op 37 (.nilc (.t 36)),.f 38 37 9,.l 39 38,.m 40 1,.op 41 (.nilc (.t 40)),.f 42 41 9,.l 43 42,.op 44 (.bslice 1 [(.t 39),(.t 43),(.i 0)]),.op 45 (.call 70 [5,1] [(.t 35),(.t 44)]),.op 46 (.call 106 [5,0,0] [(.t 34),(.t 45),(.i 5)]),.c 47 33 [25,28,31,33,46],.m 22 47,.e 48 22 0,.e 49 22 1,.e 50 22 2,.op 17 (.alloc [.nils 1,.nils 2,.i 0,.F,.nils 7,.i 0,.nils 3,.i 0,.i 0,.i 0]),.s 100011 10 17 48,.m 18 49,.m 19 50] [[],[0],[1],[],[3],[4],[],[6,4],[7],[],[9,7],[],[],[],[13],[14],[15],[],[17],[18],[19],[16,20],[12,21,10],[11,22,22],[2,5,8,10,23,23],[24],[25],[25],[25],[],[29,26,24,0,1,2,3,4,5,6,7,8,9,10,11,12,13,14,15,16,17,18,19,20,21,22,23,24,25,26,29],[27,30,0,1,2,3,4,5,6,7,8,9,10,11,12,13,14,15,16,17,18,19,20,21,22,23,24,25,26,27,29,30],[28,31,0,1,2,3,4,5,6,7,8,9,10,11,12,13,14,15,16,17,18,19,20,21,22,23,24,25,26,27,28,29,30,31]])
 (.reg [.m 51 1,.L 52 10 17,.op 53 (.nilc (.t 51)),.s 100012 10 53 52])))))))))))))⟩
theorem r_F2 {Te:TE} (c_Fk:C_Fk Te) (c_Dl:C_Dl Te) (c_Fq:C_Fq Te) (c_Dg:C_Dg Te) (c_G4:C_G4 Te) (c_Di:C_Di Te) (c_Fu:C_Fu Te) (c_Dn:C_Dn Te) (c_Fp:C_Fp Te) (c_G9:C_G9 Te) (c_Dm:C_Dm Te):∀ (c:CurV) (n:NodeV) (g:Int) (hc:c.ok) (hn:n.calm g 30) (hg:g + 2 < 60000),∃ r0,(∃ (m:NodeV) (d:CurV),(m.calm (g + 2) 30∧d.ok)∧r0=(⟨[],[d.enc,m.enc true]⟩:Res))∧RunFn Te x_F2 [.ptr c.enc,.ptr (n.enc true)] r0:=by
 intro c n g hc hn hg
 refine some_of (Nat.le_of_ble_eq_true rfl) (by rfl) ?_
 have hN:=up_in hn.1
 simp -implicitDefEqProofs (maxSteps:=1000000) only [x_F2,go_sem]
 repeat refine ⟨sc,?_⟩
 try exact sf
 obtain ⟨k,d0,⟨⟨hk0,hk1,_⟩,hd0⟩,ht⟩:=c_Fk c 8 hc
 have hk8:=hk1 (by decide)
 by_cases q0:k=0
 ·subst q0
  obtain ⟨p,d,⟨_,hd⟩,ht1⟩:=c_Fk d0 8 hd0
  refine C0 (ht) ?_
  refine C0 (ht1) ?_
  refine C0 (c_Dl n p hN) ?_
  exact ⟨(n.phase p).1,d,⟨(phase_calm p hn (by omega)).mono (by omega),hd⟩,rfl⟩
 by_cases q1:k=1
 ·subst q1
  refine C0 (ht) ?_
  refine C0 (c_Dl n (IntKind.i64.wrap (n.S.T.Phase + 1)) hN) ?_
  exact ⟨(n.phase (IntKind.i64.wrap (n.S.T.Phase + 1))).1,d0,⟨(phase_calm _ hn (by omega)).mono (by omega),hd0⟩,rfl⟩
 by_cases q2:k=2
 ·subst q2
  obtain ⟨u,d1,⟨⟨hu0,hu1,_⟩,hd1⟩,ht1⟩:=c_Fk d0 2 hd0
  obtain ⟨v,d2,⟨⟨hv0,hv1,_⟩,hd2⟩,ht2⟩:=c_Fk d1 30 hd1
  obtain ⟨key,d3,⟨hk6,hd3⟩,ht3⟩:=c_Fq d2 hd2
  have hv30:=hv1 (by decide)
  have w:IntKind.i64.wrap (1 + v)=1 + v:=IntWalk.i64_in _ (by omega)
  refine C0 (ht) ?_
  refine C0 (ht1) ?_
  refine C1 (ht2) w ?_
  refine C0 (ht3) ?_
  refine C0 (c_Dg n (IntKind.i64.wrap (1 + u)) (1 + v) key hN (by omega)) ?_
  exact ⟨(n.del (IntKind.i64.wrap (1 + u)) (1 + v) key).1,d3,⟨(del_calm key hn (by omega) (by omega)).mono (by omega),hd3⟩,rfl⟩
 by_cases q3:k=3
 ·subst q3
  obtain ⟨key,d1,⟨hk6,hd1⟩,ht1⟩:=c_Fq d0 hd0
  obtain ⟨b,d2,⟨hb,hd2⟩,ht2⟩:=c_G4 d1 n.Cs hd1
  refine C0 (ht) ?_
  refine C0 (ht1) ?_
  refine C0 (ht2) ?_
  refine C0 (c_Di n key b hN (by omega) (by omega)) ?_
  exact ⟨(n.load key b).1,d2,⟨(load_calm key b hn (by omega)).mono (by omega),hd2⟩,rfl⟩
 by_cases q4:k=4
 ·subst q4
  obtain ⟨f,d1,⟨_,hd1⟩,ht1⟩:=c_Fu d0 [⟨#[]⟩,⟨#[97]⟩,⟨#[98]⟩] hd0 (by decide)
  refine C0 (ht) ?_
  refine C0 (ht1) ?_
  refine C0 (c_Dn n f hN) ?_
  exact ⟨(n.step f).1,d1,⟨step_calm f hn hg,hd1⟩,rfl⟩
 have e:∀ j:Int,k≠j→(k==j)=false:=fun j h=>by simpa using h
 obtain ⟨u,d1,⟨⟨hu0,hu1,_⟩,hd1⟩,ht1⟩:=c_Fk d0 2 hd0
 obtain ⟨v,d2,⟨⟨hv0,hv1,_⟩,hd2⟩,ht2⟩:=c_Fk d1 30 hd1
 obtain ⟨key,d3,⟨hk6,hd3⟩,ht3⟩:=c_Fq d2 hd2
 obtain ⟨cs,d4,⟨_,hd4⟩,ht4⟩:=c_Fp d3 [n.Cs,n.Cs,0] hd3 (by simp)
 obtain ⟨s,d5,⟨hs,hd5⟩,ht5⟩:=c_G9 d4 cs 5 hd4 (by decide)
 replace hs:s.size≤20:=hs
 have hv30:=hv1 (by decide)
 have w:IntKind.i64.wrap (1 + v)=1 + v:=IntWalk.i64_in _ (by omega)
 refine .of (ht) ?_
 try simp -implicitDefEqProofs (maxSteps:=1000000) only [go_sem,e 0 q0,e 1 q1,e 2 q2,e 3 q3,e 4 q4]
 repeat refine ⟨sc,?_⟩
 try exact sf
 refine C0 (ht1) ?_
 refine C1 (ht2) w ?_
 refine C0 (ht3) ?_
 refine C0 (ht4) ?_
 refine C0 (ht5) ?_
 refine C0 (c_Dm n (IntKind.i64.wrap (1 + u)) (1 + v) key s hN (by omega) (by omega)) ?_
 exact ⟨(n.putIn (IntKind.i64.wrap (1 + u)) (1 + v) key s).1,d5,⟨(put_calm key s hn (by omega) (by omega)).mono (by omega),hd5⟩,rfl⟩
def x_Cj:FnX:=⟨6,[.tmp 2],
  .q [.F 2]
 (.q [.m 3 0,.n 4 3,.B 5 .gtr 4 1048576,.m 2 5]
 .ret)⟩
theorem r_Cj {Te:TE}:C_Cj (RF Te x_Cj):=by
 intro l
 refine run0 ?_
 simp -implicitDefEqProofs only [x_Cj,go_sem]
 repeat refine ⟨sc,?_⟩
 try exact sf
def x_Fr:FnP:=⟨32,2,
  .q [.op 2 (.mv (.k (.one (.pv (.pointer none)))))]
 (.q [.m 5 0,.n 6 5,.op 7 (.bin .add (.i 953953) (.t 6)),.m 3 7]
 (.seq (.q [.i 4 0]
 (.block 0 (.loop [0,3,4] (.seq (.q [.m 8 4,.m 9 0,.n 10 9,.b 11 .lss 8 10,.m 12 11,.y 12 (.m 13 4),.y 12 (.B 14 .lss 13 4000),.a 15 12 14]
 (.cond 15 .skip (.exit 0)))
 (.seq (.block 1 (.reg [.m 18 3,.B 19 .mul 18 137,.m 20 0,.m 21 4,.x 22 1 20 21,.l 23 22,.op 24 (.conv (.int .i64) (.t 23)),.b 25 .add 19 24,.B 26 .add 25 11,.B 27 .and 26 1073741823,.m 3 27]))
 (.reg [.m 16 4,.B 17 .add 16 1,.m 4 17]))))))
 (.norm [0,3] (.q [.m 28 0,.m 29 3,.op 30 (.build [.nils 1,.i 0,.i 0] [(0,1,(.t 28)),(2,1,(.t 29))]),.v 31 30,.m 2 31]
 .ret))))⟩
theorem r_Fr {Te:TE}:∀ (l:List UInt8) (hl:l.length≤2 ^ 31),∃ r0,(∃ (c:CurV),(c.ok)∧r0=(⟨[.ptr c.enc],[[slT false 1 uR l]]⟩:Res))∧RunFnP Te x_Fr [.one (slT false 1 uR l)] (fun r=>r=r0):=by
 intro l hl
 refine some_ofP (by rfl) ⟨by simp -implicitDefEqProofs only [x_Fr,go_sem],?_⟩
 simp -implicitDefEqProofs only [x_Fr,go_sem]
 repeat refine ⟨sc,?_⟩
 try exact sf
 refine loop_of (σ:=Nat×Int) (fun x=>⟨[(0,.one (.ro 1 (l.map uR))),(3,.one (.pv (.int .i64 x.2))),(4,.one (.pv (.int .i64 x.1)))],[],[(0,[slT false 1 uR l])]⟩) (fun x=>x.1≤l.length) (fun x=>l.length - x.1) (0,IntKind.i64.wrap (953953 + (l.length:Int))) ?_ (Nat.zero_le _) ?_
 ·simp -implicitDefEqProofs only [go_sem]; rfl
 ·rintro ⟨i,h⟩ hi
  simp only at hi
  cases q:decide ((i:Int) < (l.length:Int))
  ·refine G1 q ?_
   exact ⟨⟨l,0,h⟩,⟨Int.le_refl _,by simp,hl⟩,rfl⟩
  ·have hi':i < l.length:=by simp only [decide_eq_true_eq] at q; omega
   refine G1 q ?_
   refine ⟨fun q2=>?_,fun q2=>?_⟩
   ·try simp -implicitDefEqProofs only [go_sem,List.getElem?_eq_getElem hi']
    repeat refine ⟨sc,?_⟩
    try exact sf
    exact ⟨(i + 1,_),by rw [IntWalk.i64_in ((i:Int) + 1) (by omega)]; rfl,hi',by simp only; omega⟩
   ·refine G0 ?_
    exact ⟨⟨l,0,h⟩,⟨Int.le_refl _,by simp,hl⟩,rfl⟩
def x_Fm:FnX:=⟨58,[.tmp 2],
  .q [.i 2 0]
 (.q [.m 4 0,.m 5 0,.op 6 (.nilc (.t 5)),.f 7 6 2,.l 8 7,.B 9 .mul 8 6364136223846793005,.B 10 .add 9 1442695040888963407,.op 11 (.nilc (.t 4)),.f 12 11 2,.s 100001 1 12 10]
 (.seq (.draw [.m 13 0,.op 14 (.nilc (.t 13)),.f 15 14 2,.l 16 15,.op 17 (.bin .shr (.t 16) (.k (.one (.pv (.int .u64 33))))),.m 18 0,.op 19 (.nilc (.t 18)),.f 20 19 2,.l 21 20,.op 22 (.bin .shr (.t 21) (.k (.one (.pv (.int .u64 47))))),.b 23 .xor 17 22,.B 24 .and 23 255,.m 3 24] [[],[0],[1],[2],[3],[],[5],[6],[7],[8],[4,9],[10],[11,0,1,2,3,4,5,6,7,8,9,10,11]])
 (.seq (.seq (.draw [.m 25 0,.op 26 (.nilc (.t 25)),.f 27 26 1,.l 28 27,.m 29 0,.op 30 (.nilc (.t 29)),.f 31 30 0,.l 32 31,.n 33 32,.b 34 .lss 28 33] [[],[0],[1],[2],[],[4],[5],[6],[7],[3,8]])
 (.c 34 (.seq (.draw [.m 35 3,.m 36 0,.op 37 (.nilc (.t 36)),.f 38 37 0,.l 39 38,.m 40 0,.op 41 (.nilc (.t 40)),.f 42 41 1,.l 43 42,.x 44 1 39 43,.l 45 44,.op 46 (.conv (.int .i64) (.t 45)),.b 47 .add 35 46,.B 48 .and 47 255,.m 3 48] [[],[],[1],[2],[3],[],[5],[6],[7],[4,8],[9],[10],[0,11],[12],[13,0,1,2,3,4,5,6,7,8,9,10,11,12,13]])
 (.reg [.m 49 0,.m 50 0,.op 51 (.nilc (.t 50)),.f 52 51 1,.l 53 52,.B 54 .add 53 1,.op 55 (.nilc (.t 49)),.f 56 55 1,.s 100002 1 56 54]))))
 (.q [.m 57 3,.m 2 57]
 .ret))))⟩
theorem r_Fm {Te:TE}:∀ (c:CurV) (hc:c.ok),∃ r0,(∃ (r:Int) (d:CurV),((0≤r∧r≤255)∧d.ok)∧r0=(⟨[.one (iT r)],[d.enc]⟩:Res))∧RunFn Te x_Fm [.ptr c.enc] r0:=by
 intro c hc
 refine some_of (Nat.le_of_ble_eq_true rfl) (by rfl) ?_
 obtain ⟨h0,h1,h2⟩:=hc
 simp -implicitDefEqProofs only [x_Fm,go_sem]
 repeat refine ⟨sc,?_⟩
 try exact sf
 refine ⟨fun q=>?_,fun q=>?_⟩
 ·have hi':c.i.toNat < c.b.length:=by simp only [decide_eq_true_eq] at q; omega
  try simp -implicitDefEqProofs only [go_sem,List.getElem?_eq_getElem hi']
  repeat refine ⟨sc,?_⟩
  try exact sf
  refine ⟨_,⟨c.b,IntKind.i64.wrap (c.i + 1),IntKind.i64.wrap (IntKind.i64.wrap (c.h * 6364136223846793005) + 1442695040888963407)⟩,?_,rfl⟩
  refine ⟨andK_255 _,?_⟩
  rw [IntWalk.i64_in _ (by omega)]
  exact ⟨by show 0≤c.i + 1; omega,by show c.i + 1≤c.b.length; omega,h2⟩
 ·refine G0 ?_
  refine ⟨_,⟨c.b,c.i,IntKind.i64.wrap (IntKind.i64.wrap (c.h * 6364136223846793005) + 1442695040888963407)⟩,?_,rfl⟩
  exact ⟨andK_255 _,h0,h1,h2⟩
def x_Fk:FnX:=⟨31,[.tmp 4],
  .q [.i 4 0]
 (.seq (.q [.m 8 1,.B 9 .leq 8 0]
 (.c 9 (.q [.i 4 0]
 .ret)))
 (.seq (.q [.m 10 1,.B 11 .leq 10 256]
 (.c 11 (.q [.m 12 0,.op 13 (.call 181 [5] [(.t 12)]),.m 14 1,.b 15 .rem 13 14,.m 4 15]
 .ret)))
 (.q [.m 16 0,.op 17 (.call 181 [5] [(.t 16)]),.m 5 17]
 (.q [.m 18 0,.op 19 (.call 181 [5] [(.t 18)]),.m 6 19]
 (.q [.m 20 0,.op 21 (.call 181 [5] [(.t 20)]),.m 7 21]
 (.q [.m 22 5,.B 23 .mul 22 65536,.m 24 6,.B 25 .mul 24 256,.b 26 .add 23 25,.m 27 7,.b 28 .add 26 27,.m 29 1,.b 30 .rem 28 29,.m 4 30]
 .ret))))))⟩
theorem r_Fk {Te:TE} (c_Fm:C_Fm Te):∀ (c:CurV) (n:Int) (hc:c.ok),∃ r0,(∃ (r:Int) (d:CurV),((0≤r∧(0 < n→r < n)∧(n≤0→r=0))∧d.ok)∧r0=(⟨[.one (iT r)],[d.enc,[iT n]]⟩:Res))∧RunFn Te x_Fk [.ptr c.enc,.one (iT n)] r0:=by
 intro c n hc
 refine some_of (Nat.le_of_ble_eq_true rfl) (by rfl) ?_
 simp -implicitDefEqProofs only [x_Fk,go_sem]
 repeat refine ⟨sc,?_⟩
 try exact sf
 refine ⟨fun q=>?_,fun q=>?_⟩
 ·refine G0 ?_
  simp only [decide_eq_true_eq] at q
  exact ⟨0,c,⟨⟨Int.le_refl _,fun h=>by omega,fun _=>rfl⟩,hc⟩,rfl⟩
 ·have hn:0 < n:=by simp only [decide_eq_false_iff_not] at q; omega
  have hz:(!(n==0))=true:=by simp; omega
  refine G0 ?_
  refine ⟨fun q2=>?_,fun q2=>?_⟩
  ·refine G0 ?_
   obtain ⟨r,d,⟨hr,hd⟩,ht⟩:=c_Fm c hc
   refine C1 (ht) hz ?_
   have:=tmod_in (n:=n) hr.1 hn
   exact ⟨_,d,⟨⟨this.1,fun _=>this.2,fun h=>by omega⟩,hd⟩,rfl⟩
  ·refine G0 ?_
   obtain ⟨r1,d1,⟨hr1,hd1⟩,ht1⟩:=c_Fm c hc
   refine C0 (ht1) ?_
   obtain ⟨r2,d2,⟨hr2,hd2⟩,ht2⟩:=c_Fm d1 hd1
   refine C0 (ht2) ?_
   obtain ⟨r3,d3,⟨hr3,hd3⟩,ht3⟩:=c_Fm d2 hd2
   refine C1 (ht3) hz ?_
   rw [IntWalk.i64_in (r1 * 65536) (by omega),IntWalk.i64_in (r2 * 256) (by omega),IntWalk.i64_in (r1 * 65536 + r2 * 256) (by omega),IntWalk.i64_in _ (by omega)]
   have:=tmod_in (a:=r1 * 65536 + r2 * 256 + r3) (n:=n) (by omega) hn
   exact ⟨_,d3,⟨⟨this.1,fun _=>this.2,fun h=>by omega⟩,hd3⟩,rfl⟩
def x_Ft:FnX:=⟨9,[.tmp 4],
  .q [.F 4]
 (.q [.m 5 0,.m 6 1,.op 7 (.call 96 [5,0] [(.t 5),(.t 6)]),.B 8 .eql 7 0,.m 4 8]
 .ret)⟩
theorem r_Ft {Te:TE} (c_Fk:C_Fk Te):∀ (c:CurV) (n:Int) (hc:c.ok),∃ r0,(∃ (r:Bool) (d:CurV),(d.ok)∧r0=(⟨[.one (bT r)],[d.enc,[iT n]]⟩:Res))∧RunFn Te x_Ft [.ptr c.enc,.one (iT n)] r0:=by
 intro c n hc
 refine some_of (Nat.le_of_ble_eq_true rfl) (by rfl) ?_
 simp -implicitDefEqProofs only [x_Ft,go_sem]
 repeat refine ⟨sc,?_⟩
 try exact sf
 obtain ⟨r,d,⟨_,hd⟩,ht⟩:=c_Fk c n hc
 refine C0 (ht) ?_
 exact ⟨_,d,hd,rfl⟩
def x_Ff:FnX:=⟨34,[.cell 4 (some 10),.tmp 5],
  .q [.v 2 0,.v 3 1,.op 4 (.alloc [.nils 1,.nils 2,.i 0,.F,.nils 7,.i 0,.nils 3,.i 0,.i 0,.i 0]),.op 5 (.mv (.k (.one (.nils 8))))]
 (.q [.L 10 10 2,.f 11 3 6,.l 12 11,.c 13 38 [10,12],.m 9 13,.e 14 9 0,.e 15 9 1,.op 6 (.alloc [.nils 1,.nils 2,.i 0,.F,.nils 7,.i 0,.nils 3,.i 0,.i 0,.i 0]),.s 100001 10 6 14,.m 7 15]
 (.seq (.q [.m 16 7,.N 17 16,.m 18 17,.z 18 (.f 19 6 0),.z 18 (.f 20 19 0),.z 18 (.f 21 20 3),.z 18 (.l 22 21),.r 23 18 22]
 (.c 23 (.q [.L 24 10 6,.op 25 (.bslice 8 []),.s 100002 10 4 24,.m 5 25]
 .ret)))
 (.q [.L 26 8 3,.op 27 (.call 163 [0,0] [(.t 26),(.i 7)]),.op 8 (.alloc [.i 0,.i 0,.i 0,.i 0,.e,.e,.i 0,.i 0]),.s 100003 8 8 27]
 (.q [.f 28 3 6,.l 29 28,.f 30 8 6,.s 100004 1 30 29]
 (.seq (.draw [.L 31 10 6,.L 32 8 8,.op 33 (.bslice 8 [(.t 32)]),.s 100005 10 4 31,.m 5 33] [[],[],[1],[0,0],[2,3,0,1,2,3]])
 .ret)))))⟩
theorem r_Ff {Te:TE} (c_Dl:C_Dl Te) (c_Fc:C_Fc Te):C_Ff (RF Te x_Ff):=by
 intro n m hn
 refine X0 x_Ff.eq_1 ?_
 refine C0 (c_Dl n m.N hn) ?_
 cases g1:(n.phase m.N).2
 ·have e:n.deskPhase m=((n.phase m.N).1,[]):=by rw [NodeV.deskPhase,g1]; rfl
  exact F2 g1 e
 cases g2:(n.phase m.N).1.S.D.Down
 ·have e:n.deskPhase m=((n.phase m.N).1,[⟨7,m.To,m.From,m.Seq,⟨#[]⟩,⟨#[]⟩,m.N,0⟩]):=by rw [NodeV.deskPhase,g1,g2]; rfl
  refine G2 g1 g2 ?_
  refine .of (c_Fc m 7) ?_
  try simp -implicitDefEqProofs (maxSteps:=1000000) only [go_sem,e,g2,take_all,take_marks,NodeV.enc,StoreV.enc,DevV.enc]
  repeat refine ⟨sc,?_⟩
  try exact sf
  try rfl
 ·have e:n.deskPhase m=((n.phase m.N).1,[]):=by rw [NodeV.deskPhase,g1,g2]; rfl
  try simp -implicitDefEqProofs (maxSteps:=1000000) only [go_sem,g1,g2,e,take_all,take_marks,NodeV.enc,StoreV.enc,DevV.enc]
  repeat refine ⟨sc,?_⟩
  try exact sf
  try rfl
def x_Fh:FnX:=⟨46,[.cell 4 (some 10),.tmp 5],
  .q [.v 2 0,.v 3 1,.op 4 (.alloc [.nils 1,.nils 2,.i 0,.F,.nils 7,.i 0,.nils 3,.i 0,.i 0,.i 0]),.op 5 (.mv (.k (.one (.nils 8))))]
 (.seq (.q [.f 11 3 6,.l 12 11,.f 13 2 0,.f 14 13 4,.f 15 14 1,.l 16 15,.b 17 .neq 12 16]
 (.c 17 (.q [.L 18 10 2,.c 19 65 [18],.op 20 (.bslice 8 []),.s 100001 10 4 19,.m 5 20]
 .ret)))
 (.q [.L 22 10 2,.f 23 3 4,.l 24 23,.c 25 40 [22,24],.m 21 25,.e 26 21 0,.e 27 21 1,.e 28 21 2,.e 29 21 3,.op 6 (.alloc [.nils 1,.nils 2,.i 0,.F,.nils 7,.i 0,.nils 3,.i 0,.i 0,.i 0]),.s 100002 10 6 26,.m 7 27,.m 8 28,.m 9 29]
 (.seq (.q [.m 30 9,.N 31 30]
 (.c 31 (.q [.L 32 10 6,.op 33 (.bslice 8 []),.s 100003 10 4 32,.m 5 33]
 .ret)))
 (.q [.L 34 8 3,.op 35 (.call 163 [0,0] [(.t 34),(.i 9)]),.op 10 (.alloc [.i 0,.i 0,.i 0,.i 0,.e,.e,.i 0,.i 0]),.s 100004 8 10 35]
 (.q [.f 36 3 6,.l 37 36,.f 38 10 6,.s 100005 1 38 37]
 (.q [.m 39 7,.f 40 10 4,.s 100006 1 40 39]
 (.q [.m 41 8,.f 42 10 7,.s 100007 1 42 41]
 (.seq (.draw [.L 43 10 6,.L 44 8 10,.op 45 (.bslice 8 [(.t 44)]),.s 100008 10 4 43,.m 5 45] [[],[],[1],[0,0],[2,3,0,1,2,3]])
 .ret))))))))⟩
theorem r_Fh {Te:TE} (c_F1:C_F1 Te) (c_Dn:C_Dn Te) (c_Fc:C_Fc Te):C_Fh (RF Te x_Fh):=by
 intro n m hn
 have hL:=hn.len (by decide)
 cases hp:(m.N==n.S.T.Phase)
 ·have hq:(m.N != n.S.T.Phase)=true:=by rw [bne_neq,hp]; rfl
  have e:n.deskStep0 m=(n,[]):=by rw [NodeV.deskStep0,hp]; rfl
  refine X1 x_Fh.eq_1 hq ?_
  exact D1 (c_F1 n hL) e
 have hq:(m.N != n.S.T.Phase)=false:=by rw [bne_neq,hp]; rfl
 have e0:n.deskStep0 m=n.deskStep m:=by rw [NodeV.deskStep0,hp]; rfl
 refine X1 x_Fh.eq_1 hq ?_
 refine C0 (c_Dn n m.Key hn) ?_
 cases g:(n.step m.Key).2.2.2
 ·have e:n.deskStep m=((n.step m.Key).1,[]):=by rw [NodeV.deskStep,g]; rfl
  exact F3 g e0 e
 ·have e:n.deskStep m=((n.step m.Key).1,[⟨9,m.To,m.From,m.Seq,(n.step m.Key).2.1,⟨#[]⟩,m.N,(n.step m.Key).2.2.1⟩]):=by rw [NodeV.deskStep,g]; rfl
  refine G1 g ?_
  exact D2 (c_Fc m 9) e0 e
def x_D9_1:XCode:=.seq (.q [.i 9 1]
 (.block 0 (.loop [0,1,7,8,9] (.seq (.q [.m 43 9,.m 44 7,.b 45 .lss 43 44]
 (.cond 45 .skip (.exit 0)))
 (.seq (.block 1 (.seq (.q [.m 48 0,.m 49 1,.m 50 9,.b 51 .add 49 50,.x 52 1 48 51,.l 53 52,.op 54 (.bin .and (.t 53) (.k (.one (.pv (.int .u8 192))))),.op 55 (.bin .neq (.t 54) (.k (.one (.pv (.int .u8 128)))))]
 (.c 55 (.q [.i 4 0,.i 5 0,.F 6]
 .ret)))
 (.reg [.m 56 8,.op 57 (.bin .shl (.t 56) (.k (.one (.pv (.int .u64 6))))),.m 58 0,.m 59 1,.m 60 9,.b 61 .add 59 60,.x 62 1 58 61,.l 63 62,.op 64 (.bin .and (.t 63) (.k (.one (.pv (.int .u8 63))))),.op 65 (.conv (.int .i64) (.t 64)),.b 66 .or 57 65,.m 8 66])))
 (.reg [.m 46 9,.B 47 .add 46 1,.m 9 47]))))))
 (.norm [0,1,7,8] (.seq (.seq (.draw [.m 67 8,.c 68 275 [67],.N 69 68,.m 70 69,.z 70 (.op 71 (.bslice 1 [])),.z 70 (.m 72 8),.z 70 (.c 73 189 [71,72]),.z 70 (.op 74 (.conv .b2s (.t 73))),.z 70 (.m 75 0),.z 70 (.m 76 1),.z 70 (.m 77 1),.z 70 (.m 78 7),.z 70 (.b 79 .add 77 78),.z 70 (.op 80 (.slice 1 (.t 75) (some (.t 76)) (some (.t 79)))),.z 70 (.op 81 (.conv .b2s (.t 80))),.z 70 (.b 82 .neq 74 81),.r 83 70 82] [[],[0],[1],[2,1],[3],[3],[4,5,3,3],[6,3],[3],[3],[3],[3],[10,11,3],[8,9,12,3],[13,3],[7,14,3],[3,15]])
 (.c 83 (.q [.i 4 0,.i 5 0,.F 6]
 .ret)))
 (.q [.m 84 8,.m 85 1,.m 86 7,.b 87 .add 85 86,.m 4 84,.m 5 87,.T 6]
 .ret)))
def x_D9:FnX:=⟨88,[.tmp 4,.tmp 5,.tmp 6],
  .q [.i 4 0,.i 5 0,.F 6]
 (.seq (.q [.m 10 1,.m 11 0,.n 12 11,.B 13 .sub 12 1,.op 14 (.call 120 [0,0,0] [(.t 10),(.i 0),(.t 13)]),.N 15 14]
 (.c 15 (.q [.i 4 0,.i 5 0,.F 6]
 .ret)))
 (.q [.m 16 0,.m 17 1,.x 18 1 16 17,.l 19 18,.c 20 329 [19],.m 7 20]
 (.seq (.q [.m 21 7,.B 22 .eql 21 0,.m 23 22,.z 23 (.m 24 7),.z 23 (.m 25 0),.z 23 (.n 26 25),.z 23 (.m 27 1),.z 23 (.b 28 .sub 26 27),.z 23 (.b 29 .gtr 24 28),.r 30 23 29]
 (.c 30 (.q [.i 4 0,.i 5 0,.F 6]
 .ret)))
 (.q [.m 31 0,.m 32 1,.x 33 1 31 32,.l 34 33,.op 35 (.conv (.int .i64) (.t 34)),.m 8 35]
 (.seq (.q [.m 36 7,.B 37 .gtr 36 1]
 (.c 37 (.reg [.m 38 8,.m 39 7,.op 40 (.conv (.int .u64) (.t 39)),.op 41 (.bin .shr (.i 127) (.t 40)),.b 42 .and 38 41,.m 8 42])))
 (.norm [0,1,7,8] (x_D9_1)))))))⟩
theorem s_GetSign_tail {Te:Nat→List AV→Res→Prop} (c_S:C_E3 Te) (c_P:C_Ds Te) (b:List UInt8) (k K m:Nat) (hb:b.length≤2 ^ 30) (hK:1≤K∧K≤4∧k + K≤b.length) (hm:m < 256) :
  runC Te 2 90 x_D9_1 ⟨[(0,.one (.ro 1 (b.map uR))),(1,.one (.pv (.int .i64 (k:Int)))),(7,.one (.pv (.int .i64 (K:Int)))),(8,.one (.pv (.int .i64 (m:Int))))],[],[(0,[slT false 1 uR b]),(1,[iT k])]⟩
   (EndFn Te [.one (slT false 1 uR b),.one (iT k)] [.tmp 4,.tmp 5,.tmp 6] ⟨[.one (iT (signTail (b.drop k) k K m).1),.one (iT (signTail (b.drop k) k K m).2.1),.one (bT (signTail (b.drop k) k K m).2.2)],[[slT false 1 uR b],[iT k]]⟩):=by
 simp -implicitDefEqProofs (maxSteps:=1000000) only [x_D9_1,go_sem]
 refine loop_of (σ:=Nat) (fun j=>⟨[(0,.one (.ro 1 (b.map uR))),(1,.one (.pv (.int .i64 (k:Int)))),(7,.one (.pv (.int .i64 (K:Int)))),(8,.one (.pv (.int .i64 ((accN (b.drop k) m j:Nat):Int)))),(9,.one (.pv (.int .i64 ((j + 1:Nat):Int))))],[],[(0,[slT false 1 uR b]),(1,[iT k])]⟩) (fun j=>j + 1≤K∧contB (b.drop k) j=true) (fun j=>K - j) 0 ?_ ⟨hK.1,rfl⟩ ?_
 ·simp -implicitDefEqProofs (maxSteps:=1000000) only [go_sem]; rfl
 ·rintro j ⟨hj,hc⟩
  have hacc:=accN_small (b.drop k) hm (show j≤3 by omega)
  cases q:decide (((j + 1:Nat):Int) < (K:Int))
  ·have hjK:j=K - 1:=by simp only [decide_eq_false_iff_not] at q; omega
   subst hjK
   refine G1 q ?_
   refine C0 (c_S _) ?_
   cases h1:signOk ((accN (b.drop k) m (K - 1):Nat):Int)
   ·have e:=tail_no (l:=b.drop k) (i:=k) (K:=K) (m:=m) (by rw [h1,Bool.and_false,Bool.false_and])
    exact F1 e
   ·have e1:IntKind.i64.wrap ((k:Int) + (K:Int))=((k + K:Nat):Int):=by rw [IntWalk.i64_in _ (by omega)]; rfl
    have e2:k≤k + K:=Nat.le_add_right _ _
    have e3:List.take (k + K - k) (List.drop k (b.map uR))=((b.drop k).take K).map uR:=by rw [← List.map_drop,← List.map_take,Nat.add_sub_cancel_left]
    have e4:decide (k + K≤b.length)=true:=decide_eq_true hK.2.2
    refine G0 ?_
    refine .of (c_P [] _ (by decide)) ?_
    try simp -implicitDefEqProofs (maxSteps:=1000000) only [go_sem,e1,e3,take_map,bytesOf_uR,areBytes_uR,wholeLL_map]
    repeat refine ⟨sc,?_⟩
    try exact sf
    have ep:putSign [] ((accN (b.drop k) m (K - 1):Nat):Int)=enc8 (accN (b.drop k) m (K - 1)):=by simp only [putSign,h1,if_true,Int.toNat_natCast,List.nil_append]
    have ed:decide ((⟨(enc8 (accN (b.drop k) m (K - 1))).toArray⟩:ByteArray)=⟨((b.drop k).take K).toArray⟩)=decide (enc8 (accN (b.drop k) m (K - 1))=(b.drop k).take K):=by
     congr 1
     simp
    cases h2:decide (enc8 (accN (b.drop k) m (K - 1))=(b.drop k).take K)
    ·have e:=tail_no (l:=b.drop k) (i:=k) (K:=K) (m:=m) (by rw [h2,Bool.and_false])
     exact F4 ep ed h2 e
    ·have e:signTail (b.drop k) k K m=(((accN (b.drop k) m (K - 1):Nat):Int),(k:Int) + (K:Nat),true):=if_pos (by rw [hc,h1,h2]; rfl)
     exact F4 ep ed h2 e
  ·have hjK:j + 1 < K:=by simp only [decide_eq_true_eq] at q; omega
   have hidx:k + (j + 1) < b.length:=by omega
   have e1:IntKind.i64.wrap ((k:Int) + ((j + 1:Nat):Int))=((k + (j + 1):Nat):Int):=by rw [IntWalk.i64_in _ (by omega)]; rfl
   have eb:b[k + (j + 1)].toNat=byteN (b.drop k) (j + 1):=by
    simp only [byteN,List.getD_eq_getElem?_getD,List.getElem?_drop]
    rw [List.getElem?_eq_getElem hidx]
    rfl
   have hlt:=byteN_lt (b.drop k) (j + 1)
   have e2:=and192 (byteN (b.drop k) (j + 1)) hlt
   try simp -implicitDefEqProofs (maxSteps:=1000000) only [go_sem,q,e1,List.getElem?_eq_getElem hidx,eb,e2]
   repeat refine ⟨sc,?_⟩
   try exact sf
   cases h3:(byteN (b.drop k) (j + 1) / 64==2)
   ·have hno:contB (b.drop k) (K - 1)=false:=contB_down _ (show j + 1≤K - 1 by omega) (by simp only [contB,h3,Bool.and_false])
    have e:=tail_no (l:=b.drop k) (i:=k) (K:=K) (m:=m) (by rw [hno,Bool.false_and,Bool.false_and])
    exact F1 e
   ·have e4:IntKind.i64.wrap (((accN (b.drop k) m j:Nat):Int) * 2 ^ 6)=((accN (b.drop k) m j * 64:Nat):Int):=by rw [IntWalk.i64_in _ (by omega)]; omega
    have e5:=and8 (byteN (b.drop k) (j + 1)) hlt
    have e6:IntKind.i64.wrap ((byteN (b.drop k) (j + 1) % 64:Nat):Int)=((byteN (b.drop k) (j + 1) % 64:Nat):Int):=IntWalk.i64_in _ (by omega)
    have e7:=or_acc (accN (b.drop k) m j) (byteN (b.drop k) (j + 1) % 64) (by omega) (by omega)
    try simp -implicitDefEqProofs (maxSteps:=1000000) only [go_sem,show Nat.min 6 64=6 from rfl,e1,List.getElem?_eq_getElem hidx,eb,e4,e5,e6,e7]
    repeat refine ⟨sc,?_⟩
    try exact sf
    exact ⟨j + 1,by rw [IntWalk.i64_in _ (by omega)]; rfl,⟨hjK,by simp only [contB,hc,h3,Bool.and_true]⟩,by omega⟩
theorem r_D9 {Te:TE} (c_Fo:C_Fo Te) (c_Fx:C_Fx Te) (c_E3:C_E3 Te) (c_Ds:C_Ds Te):C_D9 (RF Te x_D9):=by
 intro b i hb
 by_cases hi:0≤i∧i < b.length
 ·obtain ⟨k,rfl⟩:∃ k:Nat,i=k:=⟨i.toNat,by omega⟩
  have hk:k < b.length:=by omega
  have hk':((k:Int)).toNat < b.length:=by omega
  have hld:(b.drop k).length=b.length - k:=List.length_drop
  have w1:IntKind.i64.wrap ((b.length:Int) - 1)=(b.length:Int) - 1:=IntWalk.i64_in _ (by omega)
  have w2:IntKind.i64.wrap ((b.length:Int) - (k:Int))=(b.length:Int) - (k:Int):=IntWalk.i64_in _ (by omega)
  have g:win (k:Int) 0 ((b.length:Int) - 1)=true:=by simp only [win,Bool.and_eq_true,decide_eq_true_eq]; omega
  have eb:b[k].toNat=byteN (b.drop k) 0:=by
   simp only [byteN,List.getD_eq_getElem?_getD,List.getElem?_drop,Nat.add_zero]
   rw [List.getElem?_eq_getElem hk]
   rfl
  have hlt:=byteN_lt (b.drop k) 0
  have w3:IntKind.i64.wrap ((byteN (b.drop k) 0:Nat):Int)=(byteN (b.drop k) 0:Nat):=IntWalk.i64_in _ (by omega)
  refine X1 x_D9.eq_1 w1 ?_
  refine C2 (c_Fo _ _ _) g (List.getElem?_eq_getElem hk) ?_
  refine C2 (c_Fx _) eb w2 ?_
  have bad:(l2len (byteN (b.drop k) 0)=0∨(b.drop k).length < l2len (byteN (b.drop k) 0))→getSign b k=(0,0,false):=fun h=>getSign_bad hi (by rw [Int.toNat_natCast]; exact sign0 h (by omega))
  cases q0:(((l2len (byteN (b.drop k) 0):Nat):Int)==0)
  ·cases q1:decide (((l2len (byteN (b.drop k) 0):Nat):Int) > (b.length:Int) - (k:Int))
   ·have hK0:l2len (byteN (b.drop k) 0)≠0:=by
     intro e
     rw [e] at q0
     cases q0
    have hKl:l2len (byteN (b.drop k) 0)≤(b.drop k).length:=by simp only [decide_eq_false_iff_not] at q1; omega
    have tail:∀ K m:Nat,1≤K∧K≤4∧k + K≤b.length→m < 256→_:=fun K m h1 h2=>s_GetSign_tail c_E3 c_Ds b k K m hb h1 h2
    have eg:getSign b (k:Int)=getTail (b.drop k) k:=by
     cases hs:signAt (b.drop k) with
     | none=>rw [getTail_none hs,getSign_bad hi (by rw [Int.toNat_natCast]; exact hs)]
     | some d=>rw [getTail_some hs,getSign_good hi (by rw [Int.toNat_natCast]; exact hs)]
    rcases l2len_in _ hK0 with ⟨hK,hv⟩ | ⟨hK,hv⟩ | ⟨hK,hv⟩ | ⟨hK,hv⟩
    ·rw [hK] at hKl q0 q1
     have ek:decide (((1:Nat):Int) > 1)=false:=by decide
     rw [eg,tail1 (l:=b.drop k) (k:Int) (by omega) hv]
     simp -implicitDefEqProofs (maxSteps:=1000000) only [go_sem,hK,q0,q1,w2,w3,List.getElem?_eq_getElem hk,eb,ek]
     exact tail 1 (byteN (b.drop k) 0) (by omega) (by omega)
    ·rw [hK] at hKl q0 q1
     have ek:decide (((2:Nat):Int) > 1)=true:=by decide
     rw [eg,tail2 (l:=b.drop k) (k:Int) (by omega) hv]
     have em:andK .i64 ((byteN (b.drop k) 0:Nat):Int) ((31:Nat):Int)=((byteN (b.drop k) 0 % 32:Nat):Int):=and_mask _ 5 hlt (by decide)
     have ew:IntKind.u64.wrap ((2:Nat):Int)=((2:Nat):Int):=by decide
     have ef:Int.fdiv 127 (2 ^ Nat.min 2 64)=((31:Nat):Int):=by decide
     simp -implicitDefEqProofs (maxSteps:=1000000) only [go_sem,hK,q0,q1,w2,w3,List.getElem?_eq_getElem hk,eb,ek,ew,ef,em]
     exact tail 2 (byteN (b.drop k) 0 % 32) (by omega) (by omega)
    ·rw [hK] at hKl q0 q1
     have ek:decide (((3:Nat):Int) > 1)=true:=by decide
     rw [eg,tail3 (l:=b.drop k) (k:Int) (by omega) hv]
     have em:andK .i64 ((byteN (b.drop k) 0:Nat):Int) ((15:Nat):Int)=((byteN (b.drop k) 0 % 16:Nat):Int):=and_mask _ 4 hlt (by decide)
     have ew:IntKind.u64.wrap ((3:Nat):Int)=((3:Nat):Int):=by decide
     have ef:Int.fdiv 127 (2 ^ Nat.min 3 64)=((15:Nat):Int):=by decide
     simp -implicitDefEqProofs (maxSteps:=1000000) only [go_sem,hK,q0,q1,w2,w3,List.getElem?_eq_getElem hk,eb,ek,ew,ef,em]
     exact tail 3 (byteN (b.drop k) 0 % 16) (by omega) (by omega)
    ·rw [hK] at hKl q0 q1
     have ek:decide (((4:Nat):Int) > 1)=true:=by decide
     rw [eg,tail4 (l:=b.drop k) (k:Int) (by omega) hv]
     have em:andK .i64 ((byteN (b.drop k) 0:Nat):Int) ((7:Nat):Int)=((byteN (b.drop k) 0 % 8:Nat):Int):=and_mask _ 3 hlt (by decide)
     have ew:IntKind.u64.wrap ((4:Nat):Int)=((4:Nat):Int):=by decide
     have ef:Int.fdiv 127 (2 ^ Nat.min 4 64)=((7:Nat):Int):=by decide
     simp -implicitDefEqProofs (maxSteps:=1000000) only [go_sem,hK,q0,q1,w2,w3,List.getElem?_eq_getElem hk,eb,ek,ew,ef,em]
     exact tail 4 (byteN (b.drop k) 0 % 8) (by omega) (by omega)
   ·have e:=bad (.inr (by simp only [decide_eq_true_eq] at q1; omega))
    exact F4 q0 q1 w2 e
  ·have e:=bad (.inl (by have:=eq_of_beq q0; omega))
   exact F2 q0 e
 ·have e:=getSign_no hi
  have w1:IntKind.i64.wrap ((b.length:Int) - 1)=(b.length:Int) - 1:=IntWalk.i64_in _ (by omega)
  have g:win i 0 ((b.length:Int) - 1)=false:=by
   simp only [win,Bool.and_eq_false_imp,decide_eq_true_eq,decide_eq_false_iff_not]
   omega
  refine X1 x_D9.eq_1 w1 ?_
  exact D2 (c_Fo _ _ _) g e
def x_F8:FnX:=⟨60,[.cell 2 (some 8)],
  .q [.op 2 (.alloc [.i 0,.i 0,.i 0,.i 0,.e,.e,.i 0,.i 0])]
 (.q [.m 4 0,.op 5 (.call 156 [5] [(.t 4)]),.op 3 (.alloc [.i 0,.i 0,.i 0,.i 0,.e,.e,.i 0,.i 0]),.s 100001 8 3 5]
 (.seq (.q [.m 6 0,.op 7 (.call 96 [5,0] [(.t 6),(.i 14)])]
 (.block 0 (.q [.B 9 .eql 7 0,.m 8 9]
 (.cond 8 (.reg [.m 10 0,.op 11 (.bslice 1 [(.i 0),(.i 10),(.i 1),(.i 3)]),.op 12 (.call 70 [5,1] [(.t 10),(.t 11)]),.f 13 3 0,.s 100002 1 13 12]) (.q [.B 15 .eql 7 1,.m 14 15]
 (.cond 14 (.reg [.m 16 0,.op 17 (.bslice 1 [(.i (-1)),(.i 0),(.i 4),(.i 5)]),.op 18 (.call 70 [5,1] [(.t 16),(.t 17)]),.f 19 3 1,.s 100003 1 19 18]) (.q [.B 21 .eql 7 2,.m 20 21]
 (.cond 20 (.reg [.m 22 0,.op 23 (.bslice 1 [(.i (-1)),(.i 0),(.i 4),(.i 5)]),.op 24 (.call 70 [5,1] [(.t 22),(.t 23)]),.f 25 3 2,.s 100004 1 25 24]) (.q [.B 27 .eql 7 3,.m 26 27]
 (.cond 26 (.reg [.m 28 0,.op 29 (.call 244 [5] [(.t 28)]),.f 30 3 3,.s 100005 1 30 29]) (.q [.B 32 .eql 7 4,.m 31 32]
 (.cond 31 (.reg [.m 33 0,.op 34 (.call 96 [5,0] [(.t 33),(.i 2)]),.op 35 (.bin .add (.i 60) (.t 34)),.op 36 (.mks 1 1 [.pv (.int .u8 0)] (.t 35)),.op 37 (.conv .b2s (.t 36)),.f 38 3 4,.s 100006 1 38 37]) (.q [.B 40 .eql 7 5,.m 39 40]
 (.cond 39 (.reg [.m 41 0,.op 42 (.call 96 [5,0] [(.t 41),(.i 2)]),.op 43 (.bin .add (.i 60) (.t 42)),.op 44 (.mks 1 1 [.pv (.int .u8 0)] (.t 43)),.op 45 (.conv .b2s (.t 44)),.f 46 3 5,.s 100007 1 46 45]) (.q [.B 48 .eql 7 6,.m 47 48]
 (.cond 47 (.reg [.m 49 0,.op 50 (.bslice 1 [(.i (-1)),(.i 255),(.i 256)]),.op 51 (.call 70 [5,1] [(.t 49),(.t 50)]),.f 52 3 6,.s 100008 1 52 51]) (.q [.B 54 .eql 7 7,.m 53 54]
 (.c 53 (.reg [.m 55 0,.op 56 (.bslice 1 [(.i (-1)),(.i 6),(.i 7)]),.op 57 (.call 70 [5,1] [(.t 55),(.t 56)]),.f 58 3 7,.s 100009 1 58 57])))))))))))))))))))
 (.q [.L 59 8 3,.s 100010 8 2 59]
 .ret)))⟩
theorem r_F8 {Te:TE} (c_F9:C_F9 Te) (c_Fk:C_Fk Te) (c_Fp:C_Fp Te) (c_Fs:C_Fs Te):∀ (c:CurV) (hc:c.ok),∃ r0,(∃ (m:Msg) (d:CurV),(msgS m∧d.ok)∧r0=(⟨[.agg m.row],[d.enc]⟩:Res))∧RunFn Te x_F8 [.ptr c.enc] r0:=by
 intro c hc
 refine some_of (Nat.le_of_ble_eq_true rfl) (by rfl) ?_
 simp -implicitDefEqProofs only [x_F8,go_sem]
 repeat refine ⟨sc,?_⟩
 try exact sf
 obtain ⟨m,d0,⟨⟨hk,htx⟩,hd0⟩,ht⟩:=c_F9 c hc
 refine C0 (ht) ?_
 obtain ⟨k,d,⟨⟨hk0,hk1,_⟩,hd⟩,ht⟩:=c_Fk d0 14 hd0
 have hk14:=hk1 (by decide)
 by_cases h0:k=0
 ·subst h0
  refine C0 (ht) ?_
  obtain ⟨r,d,⟨_,hd⟩,ht⟩:=c_Fp d [0,10,1,3] hd (by decide)
  refine C0 (ht) ?_
  exact ⟨⟨r,m.From,m.To,m.Seq,m.Key,m.Text,m.N,m.Code⟩,d,⟨⟨hk,htx⟩,hd⟩,rfl⟩
 by_cases h1:k=1
 ·subst h1
  refine C0 (ht) ?_
  obtain ⟨r,d,⟨_,hd⟩,ht⟩:=c_Fp d [-1,0,4,5] hd (by decide)
  refine C0 (ht) ?_
  exact ⟨⟨m.Kind,r,m.To,m.Seq,m.Key,m.Text,m.N,m.Code⟩,d,⟨⟨hk,htx⟩,hd⟩,rfl⟩
 by_cases h2:k=2
 ·subst h2
  refine C0 (ht) ?_
  obtain ⟨r,d,⟨_,hd⟩,ht⟩:=c_Fp d [-1,0,4,5] hd (by decide)
  refine C0 (ht) ?_
  exact ⟨⟨m.Kind,m.From,r,m.Seq,m.Key,m.Text,m.N,m.Code⟩,d,⟨⟨hk,htx⟩,hd⟩,rfl⟩
 by_cases h3:k=3
 ·subst h3
  refine C0 (ht) ?_
  obtain ⟨r,d,hd,ht⟩:=c_Fs d hd
  refine C0 (ht) ?_
  exact ⟨⟨m.Kind,m.From,m.To,r,m.Key,m.Text,m.N,m.Code⟩,d,⟨⟨hk,htx⟩,hd⟩,rfl⟩
 by_cases h4:k=4
 ·subst h4
  refine C0 (ht) ?_
  obtain ⟨u,d,⟨hu,hd⟩,ht⟩:=c_Fk d 2 hd
  have hu1:=hu.2.1 (by decide)
  have wu:IntKind.i64.wrap (60 + u)=60 + u:=IntWalk.i64_in _ (by omega)
  have z:=zero60 hu.1 hu1
  refine C1 (ht) wu ?_
  exact ⟨z.1,z.2.1,⟨m.Kind,m.From,m.To,m.Seq,⟨(bytesOf (zeroL u)).toArray⟩,m.Text,m.N,m.Code⟩,d,⟨⟨z.2.2,htx⟩,hd⟩,rfl⟩
 by_cases h5:k=5
 ·subst h5
  refine C0 (ht) ?_
  obtain ⟨u,d,⟨hu,hd⟩,ht⟩:=c_Fk d 2 hd
  have hu1:=hu.2.1 (by decide)
  have wu:IntKind.i64.wrap (60 + u)=60 + u:=IntWalk.i64_in _ (by omega)
  have z:=zero60 hu.1 hu1
  refine C1 (ht) wu ?_
  exact ⟨z.1,z.2.1,⟨m.Kind,m.From,m.To,m.Seq,m.Key,⟨(bytesOf (zeroL u)).toArray⟩,m.N,m.Code⟩,d,⟨⟨hk,z.2.2⟩,hd⟩,rfl⟩
 by_cases h6:k=6
 ·subst h6
  refine C0 (ht) ?_
  obtain ⟨r,d,⟨_,hd⟩,ht⟩:=c_Fp d [-1,255,256] hd (by decide)
  refine C0 (ht) ?_
  exact ⟨⟨m.Kind,m.From,m.To,m.Seq,m.Key,m.Text,r,m.Code⟩,d,⟨⟨hk,htx⟩,hd⟩,rfl⟩
 by_cases h7:k=7
 ·subst h7
  refine C0 (ht) ?_
  obtain ⟨r,d,⟨_,hd⟩,ht⟩:=c_Fp d [-1,6,7] hd (by decide)
  refine C0 (ht) ?_
  exact ⟨⟨m.Kind,m.From,m.To,m.Seq,m.Key,m.Text,m.N,r⟩,d,⟨⟨hk,htx⟩,hd⟩,rfl⟩
 have e:∀ j:Int,k≠j→(k==j)=false:=fun j h=>by simpa using h
 refine .of (ht) ?_
 try simp -implicitDefEqProofs only [go_sem,e 0 h0,e 1 h1,e 2 h2,e 3 h3,e 4 h4,e 5 h5,e 6 h6,e 7 h7]
 repeat refine ⟨sc,?_⟩
 try exact sf
 exact ⟨m,d,⟨⟨hk,htx⟩,hd⟩,rfl⟩
def x_F3:FnX:=⟨21,[.cell 4 (some 10)],
  .q [.op 4 (.alloc [.nils 1,.nils 2,.i 0,.F,.nils 7,.i 0,.nils 3,.i 0,.i 0,.i 0])]
 (.q [.m 7 0,.op 8 (.call 168 [5] [(.t 7)]),.c 9 45 [8],.op 5 (.alloc [.nils 1,.nils 2,.i 0,.F,.nils 7,.i 0,.nils 3,.i 0,.i 0,.i 0]),.s 100001 10 5 9]
 (.seq (.q [.m 10 0,.m 11 1,.B 12 .add 11 1,.op 13 (.call 96 [5,0] [(.t 10),(.t 12)]),.m 6 13]
 (.block 0 (.loop [0,4,5,6] (.seq (.q [.m 14 6,.B 15 .gtr 14 0]
 (.cond 15 .skip (.exit 0)))
 (.seq (.block 1 (.reg [.m 18 0,.op 19 (.call 169 [5,12] [(.t 18),(.t 5)])]))
 (.reg [.m 16 6,.B 17 .sub 16 1,.m 6 17]))))))
 (.norm [4,5] (.q [.L 20 10 5,.s 100002 10 4 20]
 .ret))))⟩
theorem r_F3 {Te:TE} (c_G0:C_G0 Te) (c_Dj:C_Dj Te) (c_Fk:C_Fk Te) (c_F2:C_F2 Te):∀ (c:CurV) (most:Int) (hc:c.ok) (hm:0≤most∧most≤16),∃ r0,(∃ (n:NodeV) (d:CurV),(n.calm 40 30∧d.ok)∧r0=(⟨[.agg (n.enc true)],[d.enc,[iT most]]⟩:Res))∧RunFn Te x_F3 [.ptr c.enc,.one (iT most)] r0:=by
 intro c most hc hm
 refine some_of (Nat.le_of_ble_eq_true rfl) (by rfl) ?_
 have w1:IntKind.i64.wrap (most + 1)=most + 1:=IntWalk.i64_in _ (by omega)
 simp -implicitDefEqProofs (maxSteps:=1000000) only [x_F3,go_sem,w1]
 repeat refine ⟨sc,?_⟩
 try exact sf
 obtain ⟨cs,d0,⟨hcs,hd0⟩,ht⟩:=c_G0 c hc
 refine C0 (ht) ?_
 refine C1 (c_Dj cs) w1 ?_
 obtain ⟨k,d1,⟨⟨hk0,hk1,_⟩,hd1⟩,ht⟩:=c_Fk d0 (most + 1) hd0
 have hk2:=hk1 (by omega)
 obtain ⟨K,rfl⟩:∃ K:Nat,k=K:=⟨k.toNat,by omega⟩
 refine C0 (ht) ?_
 refine loop_of (σ:=Nat×NodeV×Bool×CurV) (fun x=>cond x.2.2.1 ⟨[(0,.bp 0 0),(4,.bp 4 0),(5,.bp 5 0),(6,.one (.pv (.int .i64 x.1)))],[(0,[.ro 1 (x.2.2.2.b.map uR),.pv (.int .i64 x.2.2.2.i),.pv (.int .i64 x.2.2.2.h)]),(4,[.nils 1,.nils 2,.pv (.int .i64 0),.pv (.bool false),.nils 7,.pv (.int .i64 0),.nils 3,.pv (.int .i64 0),.pv (.int .i64 0),.pv (.int .i64 0)]),(5,[.rf 23 0 [] 1 0 x.2.1.S.D.Secs.length,.rf 23 1 [] 2 0 x.2.1.S.D.Cache.length,.pv (.int .i64 x.2.1.S.D.Fuse),.pv (.bool x.2.1.S.D.Down),.rf 23 4 [] 7 0 x.2.1.S.T.Rows.length,.pv (.int .i64 x.2.1.S.T.Phase),.rf 23 6 [] 3 0 x.2.1.S.T.Marks.length,.pv (.int .i64 x.2.1.S.Gen),.pv (.int .i64 x.2.1.S.Place),.pv (.int .i64 x.2.1.Cs)])],[(0,c.enc),(1,[iT most]),(23,x.2.1.enc true)]⟩ ⟨[(0,.bp 0 0),(4,.bp 4 0),(5,.bp 5 0),(6,.one (.pv (.int .i64 x.1)))],[(0,[.ro 1 (x.2.2.2.b.map uR),.pv (.int .i64 x.2.2.2.i),.pv (.int .i64 x.2.2.2.h)]),(4,[.nils 1,.nils 2,.pv (.int .i64 0),.pv (.bool false),.nils 7,.pv (.int .i64 0),.nils 3,.pv (.int .i64 0),.pv (.int .i64 0),.pv (.int .i64 0)]),(5,[.rf 23 3 [] 1 0 x.2.1.S.D.Secs.length,.rf 23 4 [] 2 0 x.2.1.S.D.Cache.length,.pv (.int .i64 x.2.1.S.D.Fuse),.pv (.bool x.2.1.S.D.Down),.rf 23 7 [] 7 0 x.2.1.S.T.Rows.length,.pv (.int .i64 x.2.1.S.T.Phase),.rf 23 9 [] 3 0 x.2.1.S.T.Marks.length,.pv (.int .i64 x.2.1.S.Gen),.pv (.int .i64 x.2.1.S.Place),.pv (.int .i64 x.2.1.Cs)])],[(0,c.enc),(1,[iT most]),(23,slT false 1 uR x.2.2.2.b::iT x.2.2.2.i::iT x.2.2.2.h::x.2.1.enc true)]⟩) (fun x=>x.1≤K∧x.2.1.calm (1 + 2 * ((K:Int) - x.1)) 30∧x.2.2.2.ok) (fun x=>x.1) (K,nodeNew cs,true,d1) ?_ ⟨Nat.le_refl _,(new_calm hcs 30).mono (by simp only; omega),hd1⟩ ?_
 ·simp -implicitDefEqProofs (maxSteps:=1000000) only [go_sem]
  try rfl
 ·rintro ⟨i,n,b,d⟩ ⟨hi,hn,hd⟩
  simp only at hi hn hd
  cases q:decide ((i:Int) > 0)
  ·cases b
   ·refine G1 q ?_
    exact ⟨n,d,⟨hn.mono (by omega),hd⟩,rfl⟩
   ·refine G1 q ?_
    exact ⟨n,d,⟨hn.mono (by omega),hd⟩,rfl⟩
  ·have q':=q
   simp only [decide_eq_true_eq] at q'
   have w2:IntKind.i64.wrap ((i:Int) - 1)=((i - 1:Nat):Int):=by rw [IntWalk.i64_in _ (by omega)]; omega
   obtain ⟨m,d2,⟨hm,hd2⟩,ht⟩:=c_F2 d n _ hd hn (by omega)
   cases b
   ·refine G1 q ?_
    refine C1 (ht) w2 ?_
    exact ⟨(i - 1,m,false,d2),rfl,⟨by simp only; omega,hm.mono (by simp only; omega),hd2⟩,by simp only; omega⟩
   ·refine G1 q ?_
    refine C1 (ht) w2 ?_
    exact ⟨(i - 1,m,false,d2),rfl,⟨by simp only; omega,hm.mono (by simp only; omega),hd2⟩,by simp only; omega⟩
def x_C8:FnX:=⟨26,[.tmp 4],
  .q [.v 2 0,.op 4 (.mv (.k (.one (.nils 7))))]
 (.q [.op 8 (.bslice 7 []),.m 5 8]
 (.seq (.q [.f 9 2 0,.l 10 9,.n 11 10,.i 12 0]
 (.block 0 (.loop [1,5,10,11,12] (.q [.b 13 .lss 12 11]
 (.seq (.cond 13 .skip (.exit 0))
 (.seq (.block 1 (.q [.x 14 7 10 12,.L 15 7 14,.op 7 (.alloc [.e,.i 0,.nils 1,.i 0,.nils 1,.i 0,.F]),.s 100001 7 7 15]
 (.q [.f 16 7 0,.l 17 16,.m 18 1,.b 19 .gtr 17 18]
 (.c 19 (.reg [.m 20 5,.L 21 7 7,.op 22 (.bslice 7 [(.t 21)]),.op 23 (.app 7 96 (.t 20) (.t 22)),.m 5 23])))))
 (.reg [.B 24 .add 12 1,.m 12 24])))))))
 (.norm [5] (.q [.m 25 5,.m 4 25]
 .ret))))⟩
theorem r_C8 {Te:TE}:C_C8 (RF Te x_C8):=by
 intro t f hl
 refine X0 x_C8.eq_1 ?_
 refine loop_of (σ:=Nat) (fun i=>⟨[(1,.one (.pv (.string f))),(5,.one (.rf 28 0 [] 7 0 (behind f (t.Rows.take i)).length)),(10,.one (.ro 7 (t.Rows.map (RowV.enc false)))),(11,.one (.pv (.int .i64 t.Rows.length))),(12,.one (.pv (.int .i64 i)))],[],[(0,t.enc false),(1,[sT f]),(28,[slT true 7 (RowV.enc false) (behind f (t.Rows.take i))])]⟩) (fun i=>i≤t.Rows.length) (fun i=>t.Rows.length - i) 0 ?_ (Nat.zero_le _) ?_
 ·simp -implicitDefEqProofs (maxSteps:=1000000) only [go_sem]
  try rfl
 ·intro i hi
  have hb:(behind f (t.Rows.take i)).length≤i:=Nat.le_trans (List.length_filter_le _ _) (by rw [List.length_take]; omega)
  cases q:decide ((i:Int) < (t.Rows.length:Int))
  ·have e:t.Rows.take i=t.Rows:=List.take_of_length_le (by simp only [decide_eq_false_iff_not] at q; omega)
   rw [e]
   exact F1 q
  ·have k1:i < t.Rows.length:=by simp only [decide_eq_true_eq] at q; omega
   have es:=behind_step (f:=f) k1
   cases g:isBehind f t.Rows[i].Key
   ·have g':=g
    rw [isBehind] at g'
    rw [g,cond_false,List.append_nil] at es
    refine G3 q (List.getElem?_eq_getElem k1) g' ?_
    refine ⟨i + 1,?_,k1,by omega⟩
    rw [es,IntWalk.i64_in _ (by omega)]
    rfl
   ·have g':=g
    rw [isBehind] at g'
    rw [g,cond_true] at es
    refine G3 q (List.getElem?_eq_getElem k1) g' ?_
    refine ⟨i + 1,?_,k1,by omega⟩
    rw [es,IntWalk.i64_in _ (by omega),List.length_append]
    simp only [slT,List.map_append]
    rfl
def x_Es:FnX:=⟨19,[.tmp 4],
  .q [.v 2 0,.v 3 1,.F 4]
 (.q [.f 5 2 0,.l 6 5,.f 7 3 0,.l 8 7,.b 9 .eql 6 8,.m 10 9,.y 10 (.f 11 2 1),.y 10 (.l 12 11),.y 10 (.op 13 (.conv .b2s (.t 12))),.y 10 (.f 14 3 1),.y 10 (.l 15 14),.y 10 (.op 16 (.conv .b2s (.t 15))),.y 10 (.b 17 .eql 13 16),.a 18 10 17,.m 4 18]
 .ret)⟩
theorem r_Es {Te:TE}:C_Es (RF Te x_Es):=by
 intro a c
 refine run0 ?_
 cases g:(a.Tag==c.Tag)
 ·simp -implicitDefEqProofs (maxSteps:=1000000) only [x_Es,go_sem,g]
  repeat refine ⟨sc,?_⟩
  try exact sf
 ·have ea:=areBytes_uR a.B
  have ec:=areBytes_uR c.B
  have fa:=bytesOf_uR a.B
  have fc:=bytesOf_uR c.B
  simp -implicitDefEqProofs (maxSteps:=1000000) only [x_Es,go_sem,g,ea,ec,fa,fc,bytes_beq,bytes_lists]
  repeat refine ⟨sc,?_⟩
  try exact sf
def x_Et:FnX:=⟨38,[.tmp 4],
  .q [.v 2 0,.v 3 1,.F 4]
 (.q [.f 5 2 0,.l 6 5,.f 7 3 0,.l 8 7,.b 9 .eql 6 8,.m 10 9,.y 10 (.f 11 2 1),.y 10 (.L 12 2 11),.y 10 (.f 13 3 1),.y 10 (.L 14 2 13),.y 10 (.c 15 204 [12,14]),.a 16 10 15,.m 17 16,.y 17 (.f 18 2 3),.y 17 (.L 19 2 18),.y 17 (.f 20 3 3),.y 17 (.L 21 2 20),.y 17 (.c 22 204 [19,21]),.a 23 17 22,.m 24 23,.y 24 (.f 25 2 5),.y 24 (.l 26 25),.y 24 (.f 27 3 5),.y 24 (.l 28 27),.y 24 (.b 29 .eql 26 28),.a 30 24 29,.m 31 30,.y 31 (.f 32 2 6),.y 31 (.l 33 32),.y 31 (.f 34 3 6),.y 31 (.l 35 34),.y 31 (.op 36 (.beq false (.t 33) (.t 35))),.a 37 31 36,.m 4 37]
 .ret)⟩
theorem r_Et {Te:TE} (c_Es:C_Es Te):C_Et (RF Te x_Et):=by
 intro a c
 refine run0 ?_
 simp -implicitDefEqProofs (maxSteps:=1000000) only [x_Et,go_sem,bytes_beq]
 repeat refine ⟨sc,?_⟩
 try exact sf
 cases g1:decide (a.Key=c.Key)
 ·try simp -implicitDefEqProofs (maxSteps:=1000000) only [go_sem,g1,rowSame]
  repeat refine ⟨sc,?_⟩
  try exact sf
 refine G1 g1 ?_
 have t1:=c_Es a.Old c.Old
 have t2:=c_Es a.New c.New
 rw [← cellSame] at t1 t2
 refine .of t1 ?_
 cases g2:cellSame a.Old c.Old
 ·try simp -implicitDefEqProofs (maxSteps:=1000000) only [go_sem,g1,g2,rowSame]
  repeat refine ⟨sc,?_⟩
  try exact sf
 refine G0 ?_
 refine .of t2 ?_
 cases g3:cellSame a.New c.New
 ·try simp -implicitDefEqProofs (maxSteps:=1000000) only [go_sem,g1,g2,g3,rowSame]
  repeat refine ⟨sc,?_⟩
  try exact sf
 refine G0 ?_
 cases g4:(a.Has==c.Has)
 ·try simp -implicitDefEqProofs (maxSteps:=1000000) only [go_sem,g1,g2,g3,g4,rowSame]
  repeat refine ⟨sc,?_⟩
  try exact sf
 have e9:∀ c:Bool,(c != false)=c:=fun c=>by cases c <;> rfl
 try simp -implicitDefEqProofs (maxSteps:=1000000) only [go_sem,g1,g2,g3,g4,rowSame,e9]
 repeat refine ⟨sc,?_⟩
 try exact sf
def x_Dw:FnX:=⟨57,[.tmp 2],
  .q [.v 1 0,.op 2 (.mv (.k (.one (.nils 13))))]
 (.q [.f 6 1 1,.l 7 6,.op 8 (.build [.i 0,.e,.i 0,.nils 1,.i 0,.nils 1,.i 0,.F,.e,.i 0,.i 0,.i 0,.i 0] [(0,1,(.i 3)),(9,1,(.t 7))]),.op 9 (.bslice 13 [(.t 8)]),.m 3 9]
 (.seq (.q [.i 4 0]
 (.block 0 (.loop [1,3,4] (.seq (.q [.m 10 4,.f 11 1 0,.l 12 11,.n 13 12,.b 14 .lss 10 13]
 (.cond 14 .skip (.exit 0)))
 (.seq (.block 1 (.reg [.m 17 3,.f 18 1 0,.l 19 18,.m 20 4,.x 21 7 19 20,.L 22 7 21,.c 23 288 [22],.op 24 (.build [.i 0,.e,.i 0,.nils 1,.i 0,.nils 1,.i 0,.F,.e,.i 0,.i 0,.i 0,.i 0] [(0,1,(.i 1)),(1,7,(.t 23))]),.op 25 (.bslice 13 [(.t 24)]),.op 26 (.app 13 152 (.t 17) (.t 25)),.m 3 26]))
 (.reg [.m 15 4,.B 16 .add 15 1,.m 4 16]))))))
 (.norm [1,3] (.seq (.q [.i 5 0]
 (.block 2 (.loop [1,3,5] (.seq (.q [.m 27 5,.f 28 1 2,.l 29 28,.n 30 29,.b 31 .lss 27 30]
 (.cond 31 .skip (.exit 2)))
 (.seq (.block 3 (.draw [.m 34 3,.f 35 1 2,.l 36 35,.m 37 5,.x 38 3 36 37,.f 39 38 0,.l 40 39,.f 41 1 2,.l 42 41,.m 43 5,.x 44 3 42 43,.f 45 44 1,.l 46 45,.f 47 1 2,.l 48 47,.m 49 5,.x 50 3 48 49,.f 51 50 2,.l 52 51,.op 53 (.build [.i 0,.e,.i 0,.nils 1,.i 0,.nils 1,.i 0,.F,.e,.i 0,.i 0,.i 0,.i 0] [(0,1,(.i 4)),(10,1,(.t 40)),(11,1,(.t 46)),(12,1,(.t 52))]),.op 54 (.bslice 13 [(.t 53)]),.op 55 (.app 13 152 (.t 34) (.t 54)),.m 3 55] [[],[],[1],[],[2,3],[4],[5],[],[7],[],[8,9],[10],[11],[],[13],[],[14,15],[16],[17],[6,12,18],[19],[0,20],[21,21,0,1,2,3,4,5,6,7,8,9,10,11,12,13,14,15,16,17,18,19,20,21]]))
 (.reg [.m 32 5,.B 33 .add 32 1,.m 5 33]))))))
 (.norm [3] (.q [.m 56 3,.m 2 56]
 .ret))))))⟩
theorem r_Dw {Te:TE} (c_Ge:C_Ge Te):C_Dw (RF Te x_Dw):=by
 intro t h
 obtain ⟨⟨hR,hRl⟩,hM⟩:=h
 refine X0 x_Dw.eq_1 ?_
 refine loop_of (σ:=Nat×List RecV) (fun x=>⟨[(1,.bp 1 0),(3,.one (.rf 58 0 [] 13 0 x.2.length)),(4,.one (.pv (.int .i64 x.1)))],[(1,[.ro 7 (t.Rows.map (RowV.enc false)),.pv (.int .i64 t.Phase),.ro 3 (t.Marks.map MarkV.row)])],[(0,t.enc false),(58,[slT true 13 (RecV.enc true) x.2])]⟩) (fun x=>x.1≤t.Rows.length∧x.2.length=x.1 + 1∧x.2=recPhase t.Phase::(t.Rows.take x.1).map recRow) (fun x=>t.Rows.length - x.1) (0,[recPhase t.Phase]) ?_ ⟨Nat.zero_le _,rfl,rfl⟩ ?_
 ·simp -implicitDefEqProofs (maxSteps:=1000000) only [go_sem]
  try rfl
 ·rintro ⟨i,a⟩ ⟨hi,hl,he⟩
  simp only at hi hl he
  cases q:decide ((i:Int) < (t.Rows.length:Int))
  ·have k0:i=t.Rows.length:=by simp only [decide_eq_false_iff_not] at q; omega
   rw [k0,List.take_length] at he
   refine G1 q ?_
   refine loop_of (σ:=Nat×List RecV) (fun x=>⟨[(1,.bp 1 0),(3,.one (.rf 58 0 [] 13 0 x.2.length)),(5,.one (.pv (.int .i64 x.1)))],[(1,[.ro 7 (t.Rows.map (RowV.enc false)),.pv (.int .i64 t.Phase),.ro 3 (t.Marks.map MarkV.row)])],[(0,t.enc false),(58,[slT true 13 (RecV.enc true) x.2])]⟩) (fun x=>x.1≤t.Marks.length∧x.2.length=t.Rows.length + x.1 + 1∧x.2=recPhase t.Phase::(t.Rows.map recRow++(t.Marks.take x.1).map recMark)) (fun x=>t.Marks.length - x.1) (0,a) ?_ ⟨Nat.zero_le _,by simp only; omega,by simp only [List.take_zero,List.map_nil,List.append_nil]; exact he⟩ ?_
   ·simp -implicitDefEqProofs (maxSteps:=1000000) only [go_sem]
    try rfl
   ·rintro ⟨j,b⟩ ⟨hj,hbl,hbe⟩
    simp only at hj hbl hbe
    cases q2:decide ((j:Int) < (t.Marks.length:Int))
    ·have k2:j=t.Marks.length:=by simp only [decide_eq_false_iff_not] at q2; omega
     rw [k2,List.take_length] at hbe
     have e9:recsOf t=b:=hbe.symm
     have e8:List.take b.length (List.map (RecV.enc true) b)=List.map (RecV.enc true) b:=List.take_of_length_le (by simp)
     exact F3 q2 e9 e8
    ·have k2:j < t.Marks.length:=by simp only [decide_eq_true_eq] at q2; omega
     have ea:List.map (RecV.enc true) b++[[iT 4,sT ⟨#[]⟩,iT 0,Tr.sl true 1 () [],iT 0,Tr.sl true 1 () [],iT 0,bT false,sT ⟨#[]⟩,iT 0,iT t.Marks[j].Who,iT t.Marks[j].Seq,iT t.Marks[j].Code]]=List.map (RecV.enc true) (b++[recMark t.Marks[j]]):=by rw [List.map_append]; rfl
     have et:List.take b.length (List.map (RecV.enc true) b)=List.map (RecV.enc true) b:=List.take_of_length_le (by simp)
     refine G4 q2 (List.getElem?_eq_getElem k2) et ea ?_
     refine ⟨(j + 1,b++[recMark t.Marks[j]]),?_,⟨k2,?_,?_⟩,?_⟩
     ·rw [IntWalk.i64_in _ (by omega)]
      simp only [List.length_append]
      rfl
     ·simp only [List.length_append,List.length_cons,List.length_nil]; omega
     ·rw [hbe,recs_marks k2]
     ·simp only; omega
  ·have k1:i < t.Rows.length:=by simp only [decide_eq_true_eq] at q; omega
   have ea:List.map (RecV.enc true) a++[[iT 1,sT t.Rows[i].Key,iT t.Rows[i].Old.Tag,slT true 1 uR t.Rows[i].Old.B,iT t.Rows[i].New.Tag,slT true 1 uR t.Rows[i].New.B,iT t.Rows[i].Has,bT t.Rows[i].Aside,sT ⟨#[]⟩,iT 0,iT 0,iT 0,iT 0]]=List.map (RecV.enc true) (a++[recRow t.Rows[i]]):=by rw [List.map_append]; rfl
   have et:List.take a.length (List.map (RecV.enc true) a)=List.map (RecV.enc true) a:=List.take_of_length_le (by simp)
   refine G2 q (List.getElem?_eq_getElem k1) ?_
   refine C2 (c_Ge t.Rows[i] (hRl _ (List.getElem_mem k1))) et ea ?_
   refine ⟨(i + 1,a++[recRow t.Rows[i]]),?_,⟨k1,?_,?_⟩,?_⟩
   ·rw [IntWalk.i64_in _ (by omega)]
    simp only [List.length_append]
    rfl
   ·simp only [List.length_append,List.length_cons,List.length_nil]; omega
   ·rw [he,recs_rows k1]
   ·simp only; omega
def x_Au:FnX:=⟨26,[.tmp 4,.tmp 5],
  .q [.i 4 0,.F 5]
 (.seq (.block 0 (.q [.m 7 0,.B 8 .eql 7 164,.m 9 8,.y 9 (.m 10 1),.y 9 (.op 11 (.call 90 [0,0,0] [(.t 10),(.i 161),(.i 243)])),.a 12 9 11,.m 6 12]
 (.cond 6 (.q [.m 13 1,.op 14 (.bin .add (.i 12353) (.t 13)),.B 15 .sub 14 161,.m 4 15,.T 5]
 .ret) (.q [.m 17 0,.B 18 .eql 17 165,.m 19 18,.y 19 (.m 20 1),.y 19 (.op 21 (.call 90 [0,0,0] [(.t 20),(.i 161),(.i 246)])),.a 22 19 21,.m 16 22]
 (.c 16 (.q [.m 23 1,.op 24 (.bin .add (.i 12449) (.t 23)),.B 25 .sub 24 161,.m 4 25,.T 5]
 .ret))))))
 (.q [.i 4 0,.F 5]
 .ret))⟩
theorem r_Au {Te:TE} (c_Ch:C_Ch Te):C_Au (RF Te x_Au):=by
 intro hi lo h
 refine run0 ?_
 have w1:IntKind.i64.wrap (12353 + lo)=12353 + lo:=IntWalk.i64_in _ (by omega)
 have w2:IntKind.i64.wrap (12353 + lo - 161)=12353 + lo - 161:=IntWalk.i64_in _ (by omega)
 have w3:IntKind.i64.wrap (12449 + lo)=12449 + lo:=IntWalk.i64_in _ (by omega)
 have w4:IntKind.i64.wrap (12449 + lo - 161)=12449 + lo - 161:=IntWalk.i64_in _ (by omega)
 have no:∀ a b c d:Bool,(a&&b)=false→(c&&d)=false→True:=fun _ _ _ _ _ _=>trivial
 cases g1:(hi==164)
 ·cases g3:(hi==165)
  ·have e:pairSign hi lo=(0,false):=by rw [pairSign,g1,g3]; rfl
   simp -implicitDefEqProofs (maxSteps:=1000000) only [x_Au,go_sem,g1,g3,e]
   repeat refine ⟨sc,?_⟩
   try exact sf
  ·simp -implicitDefEqProofs (maxSteps:=1000000) only [x_Au,go_sem,g1,g3]
   repeat refine ⟨sc,?_⟩
   try exact sf
   refine C0 (c_Ch _ _ _) ?_
   cases g4:win lo 161 246
   ·have e:pairSign hi lo=(0,false):=by rw [pairSign,g1,g3,g4]; rfl
    exact F1 e
   ·have e:pairSign hi lo=(12449 + lo - 161,true):=by rw [pairSign,g1,g3,g4]; rfl
    exact F3 e w3 w4
 ·have g3:(hi==165)=false:=by have:=eq_of_beq g1; subst this; rfl
  simp -implicitDefEqProofs (maxSteps:=1000000) only [x_Au,go_sem,g1]
  repeat refine ⟨sc,?_⟩
  try exact sf
  refine C0 (c_Ch _ _ _) ?_
  cases g4:win lo 161 243
  ·have e:pairSign hi lo=(0,false):=by rw [pairSign,g1,g3,g4]; rfl
   exact F2 g3 e
  ·have e:pairSign hi lo=(12353 + lo - 161,true):=by rw [pairSign,g1,g4]; rfl
   exact F3 e w1 w2
def x_Do:FnX:=⟨26,[.tmp 4,.tmp 5],
  .q [.i 4 0,.F 5]
 (.seq (.block 0 (.q [.m 7 0,.B 8 .eql 7 164,.m 9 8,.y 9 (.m 10 1),.y 9 (.op 11 (.call 120 [0,0,0] [(.t 10),(.i 161),(.i 243)])),.a 12 9 11,.m 6 12]
 (.cond 6 (.q [.m 13 1,.op 14 (.bin .add (.i 12353) (.t 13)),.B 15 .sub 14 161,.m 4 15,.T 5]
 .ret) (.q [.m 17 0,.B 18 .eql 17 165,.m 19 18,.y 19 (.m 20 1),.y 19 (.op 21 (.call 120 [0,0,0] [(.t 20),(.i 161),(.i 246)])),.a 22 19 21,.m 16 22]
 (.c 16 (.q [.m 23 1,.op 24 (.bin .add (.i 12449) (.t 23)),.B 25 .sub 24 161,.m 4 25,.T 5]
 .ret))))))
 (.q [.i 4 0,.F 5]
 .ret))⟩
theorem r_Do {Te:TE} (c_Fo:C_Fo Te):C_Do (RF Te x_Do):=by
 intro hi lo h
 refine run0 ?_
 have w1:IntKind.i64.wrap (12353 + lo)=12353 + lo:=IntWalk.i64_in _ (by omega)
 have w2:IntKind.i64.wrap (12353 + lo - 161)=12353 + lo - 161:=IntWalk.i64_in _ (by omega)
 have w3:IntKind.i64.wrap (12449 + lo)=12449 + lo:=IntWalk.i64_in _ (by omega)
 have w4:IntKind.i64.wrap (12449 + lo - 161)=12449 + lo - 161:=IntWalk.i64_in _ (by omega)
 have no:∀ a b c d:Bool,(a&&b)=false→(c&&d)=false→True:=fun _ _ _ _ _ _=>trivial
 cases g1:(hi==164)
 ·cases g3:(hi==165)
  ·have e:pairSign hi lo=(0,false):=by rw [pairSign,g1,g3]; rfl
   simp -implicitDefEqProofs (maxSteps:=1000000) only [x_Do,go_sem,g1,g3,e]
   repeat refine ⟨sc,?_⟩
   try exact sf
  ·simp -implicitDefEqProofs (maxSteps:=1000000) only [x_Do,go_sem,g1,g3]
   repeat refine ⟨sc,?_⟩
   try exact sf
   refine C0 (c_Fo _ _ _) ?_
   cases g4:win lo 161 246
   ·have e:pairSign hi lo=(0,false):=by rw [pairSign,g1,g3,g4]; rfl
    exact F1 e
   ·have e:pairSign hi lo=(12449 + lo - 161,true):=by rw [pairSign,g1,g3,g4]; rfl
    exact F3 e w3 w4
 ·have g3:(hi==165)=false:=by have:=eq_of_beq g1; subst this; rfl
  simp -implicitDefEqProofs (maxSteps:=1000000) only [x_Do,go_sem,g1]
  repeat refine ⟨sc,?_⟩
  try exact sf
  refine C0 (c_Fo _ _ _) ?_
  cases g4:win lo 161 243
  ·have e:pairSign hi lo=(0,false):=by rw [pairSign,g1,g3,g4]; rfl
   exact F2 g3 e
  ·have e:pairSign hi lo=(12353 + lo - 161,true):=by rw [pairSign,g1,g4]; rfl
   exact F3 e w1 w2
def x_Da:FnX:=⟨24,[.tmp 4],
  .q [.op 4 (.mv (.k (.one (.nils 1))))]
 (.seq (.q [.m 6 0,.op 7 (.call 120 [0,0,0] [(.t 6),(.i 1),(.i 60000)]),.N 8 7,.m 9 8,.z 9 (.m 10 1),.z 9 (.op 11 (.call 120 [0,0,0] [(.t 10),(.i 0),(.i 30)])),.z 9 (.N 12 11),.r 13 9 12]
 (.c 13 (.q [.op 14 (.bslice 1 []),.m 4 14]
 .ret)))
 (.q [.op 15 (.bslice 1 []),.m 16 0,.c 17 282 [15,16],.m 18 1,.c 19 282 [17,18],.m 5 19]
 (.q [.m 20 5,.m 21 5,.c 22 285 [21],.c 23 282 [20,22],.m 4 23]
 .ret)))⟩
theorem r_Da {Te:TE} (c_Fo:C_Fo Te) (c_Du:C_Du Te) (c_E7:C_E7 Te):C_Da (RF Te x_Da):=by
 intro gen n
 refine X0 x_Da.eq_1 ?_
 refine C0 (c_Fo _ _ _) ?_
 cases g1:win gen 1 60000
 ·have e:headOf gen n=[]:=by rw [headOf,headGood,g1]; rfl
  exact F1 e
 refine G0 ?_
 refine C0 (c_Fo _ _ _) ?_
 cases g2:win n 0 30
 ·have e:headOf gen n=[]:=by rw [headOf,headGood,g1,g2]; rfl
  exact F1 e
 refine G0 ?_
 have e:headOf gen n=putW (putW (putW [] gen) n) (sum (putW (putW [] gen) n):Nat):=by rw [headOf,headGood,g1,g2]; rfl
 have l1:(putW (putW [] gen) n).length=4:=by rw [putW_len,putW_len]; rfl
 have t1:=c_Du [] gen (by show 0≤2 ^ 30; decide)
 refine C0 (t1) ?_
 refine C0 (c_Du (putW [] gen) n (by rw [putW_len]; show 0 + 2≤2 ^ 30; decide)) ?_
 refine C0 (c_E7 (putW (putW [] gen) n) (by omega)) ?_
 refine .of (c_Du (putW (putW [] gen) n) _ (by omega)) ?_
 try simp -implicitDefEqProofs (maxSteps:=1000000) only [go_sem,e]
 repeat refine ⟨sc,?_⟩
 try exact sf
end Go.X

